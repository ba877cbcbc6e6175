/- Part 35 of the proof. -/
import Derived.Test.YtbbppkkhidkjpaaGreatDoorM30
import Derived.Laws.StructEq
import Derived.DeepKeys
set_option linter.unusedSimpArgs false
set_option linter.unusedVariables false
set_option maxHeartbeats 8000000
namespace Go.Proofs.YtbbppkkhidkjpaaGreatDoor
section
open Go Go.RowKit Go.BigFrame
namespace Sx
attribute [local irreducible] DQ DQS WC WO WX wd
section
open Kp
variable {P:Program} {w0:World} {gs:List Nat} {n:Nat} {fl:List Nat} {Q:Exit→Act→World→Prop} {ops:List Oper} {L0:List Ent}
variable {tail rest:List Oper} {i:Nat} {C:zF→Prop} {K:zF→List (Nat × Value)} {N:zF→List (Nat × Ent)}
variable {d:Nat} {op:Op} {ty:TypeId} {pos:String} {after:Array Edge} {gd:Option (Nat × Bool)}
theorem Fn.ex {f:FuncId} {ar:List Value} {R:World→Prop} {v:Value} (h:Fn P f ar R (Is v)):Fn P f ar R (Ex (fun _=>v) (fun _=>[]) (fun _=>True)) :=
 fun w hw=>(h w hw).mono (fun e w' ⟨v',N,h1,h2,_,h4⟩=>⟨v',[],h1,h2,fA.nil _ _,fun _=>0,h4,rfl,trivial⟩)
theorem DQ.acallV {f:FuncId} [Cal P f] {x:Operand} {xs:Array Operand} {ats:Array TypeId} {fs ar cs ar' : List Value} {v:Value} (hc:Fn P f ar' Tr (Is v)) (hx:∀ s,ev (K s) x=some (.func (.func f) fs.toArray cs.toArray):=by (intro s;rfl)) (ha:∀ s,evs (K s) xs.toList=some ar:=by (intro s;rfl)) (hh:fs++ar++cs=ar':=by rfl)
  (k:DQ P w0 gs n fl Q ops L0 tail (i+1) rest (fun s=>C s∧True) (fun s=>(d,v)::K s) N) (hfl:fl.contains i=false:=by rfl) (hw:∀ s,wk ops (K s) gd=some true:=by intro _;rfl) (hd:Nat.blt d n=true:=by rfl) :
  DQ P w0 gs n fl Q ops L0 tail i (⟨some d,.call { callee:=.value x,args:=xs,argTypes:=ats },ty,pos,after,gd⟩::rest) C K N :=
 DQ.callsE (fs:=fun _=>fs) (cs:=fun _=>cs) (R:=fun _=>Tr) (vf:=fun _ _=>v) (Nf:=fun _ _=>[]) (S:=fun _ _=>True) (fun _=>[]) (fun _=>.nil) (fun _=>⟨fun _=>0,trivial⟩) (fun _ _=>hc.ex) hx ha (fun _=>hh) (fun _ _ _ _=>trivial) Dp.const Dp.const Dp.const k hfl hw hd
end
theorem nG {q:Nat} (h:0<q) (s:List Nat) (Ps:List (List Nat)):kY q s Ps<q:=Nat.mod_lt _ h
def ym (q c:Nat):Nat:=(0+q - c)%q
def ckC (p q:Nat) (s:List Nat) (base a y b c S:Nat):Nat:=kY q s [be 32 base,be 32 a,be 32 y,be 32 b,be 32 (base ^ S%p*(a ^ ym q c%p)%p),be 32 (y ^ S%p*(b ^ ym q c%p)%p)]
def ckB (p q:Nat) (s:List Nat) (base a y b c S:Nat):Bool:=gIn p q base && gIn p q a && gIn p q y && gIn p q b && zD c c q && zD S S q && decide (ckC p q s base a y b c S=c)
abbrev pfV (c s:Nat):Value:=.agg #[.int .u64 ((wd 0 c:Nat):Int),.int .u64 ((wd 1 c:Nat):Int),.int .u64 ((wd 2 c:Nat):Int),.int .u64 ((wd 3 c:Nat):Int),.int .u64 ((wd 0 s:Nat):Int),.int .u64 ((wd 1 s:Nat):Int),.int .u64 ((wd 2 s:Nat):Int),.int .u64 ((wd 3 s:Nat):Int)]
theorem yZ {p q a:Nat} (h:gIn p q a=true):vo p a=true:=by
 unfold gIn at h;simp at h;exact h.1
section
variable {P:Program} {w0:World} {gs:List Nat} {K:List (Nat × Value)} {L:List Ent}
theorem zw {t len elem size i n ty:Nat} {k:IntKind} {x y:Operand} {cs vs:List Value} [ArT P t len elem size] [AgT P elem n] (hx:ev K x=some (.agg cs.toArray)) (hy:ev K y=some (.int k (i:Int))) (hi:i<len) (hc:cut cs (i*size) n=vs) (hsn:size=n:=by rfl) :
  Does P w0 gs K L (.index t x y) ty (.agg vs.toArray):=by
 intro a w hk _ o ho _;subst hc;subst hsn;have hu:∀ w,(underlying t).run P w=.ok (.array len elem) w:=fun w=>by simp[underlying,ArT.under (P:=P) (t:=t)]
 simp only[execOp,ho,hk.eval hx,hk.eval hy,Instr.index,asIntOf,Sem.run_bind,Sem.run_pure,Result.andThen_ok,hu];rw[if_pos ⟨by omega,by omega⟩];simp only[Sem.run_bind,ArT.size (P:=P) (t:=t),Result.andThen_ok,Sem.run_pure,Int.toNat_natCast,Go.part,AgT.agg (P:=P) (t:=elem) w,if_true,AgT.size (P:=P) (t:=elem) w];simp[cut,List.extract_eq_take_drop]
end
section
variable (p q g h:Nat) (s:ByteArray)
theorem bQ (base a y b c S:Nat) (hp:p<zb) (hq:q<zb) (hbs:base<zb) (ha:a<zb) (hy:y<zb) (hb:b<zb) (hc:c<zb) (hS:S<zb)
  (hB:(gIn p q base && gIn p q a && gIn p q y && gIn p q b && zD c c q && zD S S q)=false) :
  Fn Tryz.prog 33 [yd p q g h,.string s,zf base,zf a,zf y,zf b,pfV c S] Tr (Is (.bool false)):=by
 have h1:=qZ p q g h base hbs hp hq;have h2:=qZ p q g h a ha hp hq;have h3:=qZ p q g h y hy hp hq;have h4:=qZ p q g h b hb hp hq;have h5:=j8 p q g h s c hc hq;have h6:=j8 p q g h s S hS hq;cases e1:gIn p q base with
 | false =>
  rw[e1] at h1;clear hB h2 h3 h4 h5 h6;refine Fn.enter Tryz.func33 rfl rfl rfl ?_;intro w hw
  repeat (first|refine WC.loopU 4 ?_|refine Ta ?_|(refine Tm ?_;intro _)|refine WO.does (zw (len:=4) (i:=0) rfl rfl (by decide) rfl) ?_|refine WO.acall (hc:=h1) (k:=?_)|refine Tc ?_|exact Tz)
  done
 | true =>
 rw[e1] at h1 hB;cases e2:gIn p q a with
 | false =>
  rw[e2] at h2;clear hB h3 h4 h5 h6;refine Fn.enter Tryz.func33 rfl rfl rfl ?_;intro w hw
  repeat (first|refine WC.loopU 4 ?_|refine Ta ?_|(refine Tm ?_;intro _)|refine WO.does (zw (len:=4) (i:=0) rfl rfl (by decide) rfl) ?_|refine WO.acall (hc:=h1) (k:=?_)|refine Tc ?_|exact Tz)
  repeat (first|refine Ta ?_|(refine Tm ?_;intro _)|refine WO.does (zw (len:=4) (i:=1) rfl rfl (by decide) rfl) ?_|refine WO.acall (hc:=h2) (k:=?_)|refine Tc ?_|exact Tz)
  done
 | true =>
 rw[e2] at h2 hB;cases e3:gIn p q y with
 | false =>
  rw[e3] at h3;clear hB h4 h5 h6;refine Fn.enter Tryz.func33 rfl rfl rfl ?_;intro w hw
  repeat (first|refine WC.loopU 4 ?_|refine Ta ?_|(refine Tm ?_;intro _)|refine WO.does (zw (len:=4) (i:=0) rfl rfl (by decide) rfl) ?_|refine WO.acall (hc:=h1) (k:=?_)|refine Tc ?_|exact Tz)
  repeat (first|refine Ta ?_|(refine Tm ?_;intro _)|refine WO.does (zw (len:=4) (i:=1) rfl rfl (by decide) rfl) ?_|refine WO.acall (hc:=h2) (k:=?_)|refine Tc ?_|exact Tz)
  repeat (first|refine Ta ?_|(refine Tm ?_;intro _)|refine WO.does (zw (len:=4) (i:=2) rfl rfl (by decide) rfl) ?_|refine WO.acall (hc:=h3) (k:=?_)|refine Tc ?_|exact Tz)
  done
 | true =>
 rw[e3] at h3 hB;cases e4:gIn p q b with
 | false =>
  rw[e4] at h4;clear hB h5 h6;refine Fn.enter Tryz.func33 rfl rfl rfl ?_;intro w hw
  repeat (first|refine WC.loopU 4 ?_|refine Ta ?_|(refine Tm ?_;intro _)|refine WO.does (zw (len:=4) (i:=0) rfl rfl (by decide) rfl) ?_|refine WO.acall (hc:=h1) (k:=?_)|refine Tc ?_|exact Tz)
  repeat (first|refine Ta ?_|(refine Tm ?_;intro _)|refine WO.does (zw (len:=4) (i:=1) rfl rfl (by decide) rfl) ?_|refine WO.acall (hc:=h2) (k:=?_)|refine Tc ?_|exact Tz)
  repeat (first|refine Ta ?_|(refine Tm ?_;intro _)|refine WO.does (zw (len:=4) (i:=2) rfl rfl (by decide) rfl) ?_|refine WO.acall (hc:=h3) (k:=?_)|refine Tc ?_|exact Tz)
  repeat (first|refine Ta ?_|(refine Tm ?_;intro _)|refine WO.does (zw (len:=4) (i:=3) rfl rfl (by decide) rfl) ?_|refine WO.acall (hc:=h4) (k:=?_)|refine Tc ?_|exact Tz)
  done
 | true =>
 rw[e4] at h4 hB;cases e5:zD c c q with
 | false =>
  rw[e5] at h5;clear hB h6;refine Fn.enter Tryz.func33 rfl rfl rfl ?_;intro w hw
  repeat (first|refine WC.loopU 4 ?_|refine Ta ?_|(refine Tm ?_;intro _)|refine WO.does (zw (len:=4) (i:=0) rfl rfl (by decide) rfl) ?_|refine WO.acall (hc:=h1) (k:=?_)|refine Tc ?_|exact Tz)
  repeat (first|refine Ta ?_|(refine Tm ?_;intro _)|refine WO.does (zw (len:=4) (i:=1) rfl rfl (by decide) rfl) ?_|refine WO.acall (hc:=h2) (k:=?_)|refine Tc ?_|exact Tz)
  repeat (first|refine Ta ?_|(refine Tm ?_;intro _)|refine WO.does (zw (len:=4) (i:=2) rfl rfl (by decide) rfl) ?_|refine WO.acall (hc:=h3) (k:=?_)|refine Tc ?_|exact Tz)
  repeat (first|refine Ta ?_|(refine Tm ?_;intro _)|refine WO.does (zw (len:=4) (i:=3) rfl rfl (by decide) rfl) ?_|refine WO.acall (hc:=h4) (k:=?_)|refine Tc ?_|exact Tz)
  repeat (first|refine Ta ?_|(refine Tm ?_;intro _)|refine WO.acall (hc:=h5) (k:=?_)|refine Tc ?_|exact Tz)
  done
 | true =>
 rw[e5] at h5 hB;have e6:zD S S q=false:=by simpa using hB
 rw[e6] at h6;clear hB;refine Fn.enter Tryz.func33 rfl rfl rfl ?_;intro w hw
 repeat (first|refine WC.loopU 4 ?_|refine Ta ?_|(refine Tm ?_;intro _)|refine WO.does (zw (len:=4) (i:=0) rfl rfl (by decide) rfl) ?_|refine WO.acall (hc:=h1) (k:=?_)|refine Tc ?_|exact Tz)
 repeat (first|refine Ta ?_|(refine Tm ?_;intro _)|refine WO.does (zw (len:=4) (i:=1) rfl rfl (by decide) rfl) ?_|refine WO.acall (hc:=h2) (k:=?_)|refine Tc ?_|exact Tz)
 repeat (first|refine Ta ?_|(refine Tm ?_;intro _)|refine WO.does (zw (len:=4) (i:=2) rfl rfl (by decide) rfl) ?_|refine WO.acall (hc:=h3) (k:=?_)|refine Tc ?_|exact Tz)
 repeat (first|refine Ta ?_|(refine Tm ?_;intro _)|refine WO.does (zw (len:=4) (i:=3) rfl rfl (by decide) rfl) ?_|refine WO.acall (hc:=h4) (k:=?_)|refine Tc ?_|exact Tz)
 repeat (first|refine Ta ?_|(refine Tm ?_;intro _)|refine WO.acall (hc:=h5) (k:=?_)|refine WO.acall (hc:=h6) (k:=?_)|refine Tc ?_|exact Tz)
 done
end
section
variable (p q g h:Nat) (s:ByteArray)
theorem av (base a y b c S:Nat) (hp:p<zb) (hq:q<zb) (hbs:base<zb) (ha:a<zb) (hy:y<zb) (hb:b<zb) (hc:c<zb) (hS:S<zb) (hs:s.size≤68719476736)
  (hB:(gIn p q base && gIn p q a && gIn p q y && gIn p q b && zD c c q && zD S S q)=true) :
  Fn Tryz.prog 33 [yd p q g h,.string s,zf base,zf a,zf y,zf b,pfV c S] Tr (Is (.bool (decide (ckC p q (zN s) base a y b c S=c)))):=by
 have h1:=qZ p q g h base hbs hp hq;have h2:=qZ p q g h a ha hp hq;have h3:=qZ p q g h y hy hp hq;have h4:=qZ p q g h b hb hp hq;have h5:=j8 p q g h s c hc hq;have h6:=j8 p q g h s S hS hq;simp only[Bool.and_eq_true] at hB;obtain⟨⟨⟨⟨⟨e1,e2⟩,e3⟩,e4⟩,e5⟩,e6⟩:=hB;rw[e1] at h1;rw[e2] at h2;rw[e3] at h3;rw[e4] at h4;rw[e5] at h5;rw[e6] at h6;obtain⟨hq1,hcq,_⟩:=zK e5;have hbk:ym q c<q:=Nat.mod_lt _ (by omega);have hU:=aaS p q g h 0 c zq hc hq;rw[show zD 0 c q=true by simp[zD,hq1,hcq];omega,show (0+q - c)%q=ym q c from rfl] at hU;have m1:=dV p q g h s base S a (ym q c) hbs hS ha (by omega) hp (yZ e1) (yZ e2);have m2:=dV p q g h s y S b (ym q c) hy hS hb (by omega) hp (yZ e3) (yZ e4);have hC:=fun j=>aa7 p q g h s base a y b (base ^ S%p*(a ^ ym q c%p)%p) (y ^ S%p*(b ^ ym q c%p)%p) j 0 6 hq (by omega) (by omega);have hcl:ckC p q (zN s) base a y b c S<zb:=Nat.lt_trans (nG (by omega) _ _) hq;rw[show kY q (zN s) [be 32 base,be 32 a,be 32 y,be 32 b,be 32 (base ^ S%p*(a ^ ym q c%p)%p),be 32 (y ^ S%p*(b ^ ym q c%p)%p)]=ckC p q (zN s) base a y b c S from rfl] at hC;generalize ckC p q (zN s) base a y b c S=R at *;generalize base ^ S%p*(a ^ ym q c%p)%p=P1 at *;generalize y ^ S%p*(b ^ ym q c%p)%p=P2 at *;generalize ym q c=B at *;clear e1 e2 e3 e4 e5 e6;refine Fn.enter Tryz.func33 rfl rfl rfl ?_;intro w hw
 repeat (first|refine WC.loopU 4 ?_|refine Ta ?_|(refine Tm ?_;intro _)|refine WO.does (zw (len:=4) (i:=0) rfl rfl (by decide) rfl) ?_|refine WO.acall (hc:=h1) (k:=?_)|refine Tc ?_|exact Tz)
 repeat (first|refine Ta ?_|(refine Tm ?_;intro _)|refine WO.does (zw (len:=4) (i:=1) rfl rfl (by decide) rfl) ?_|refine WO.acall (hc:=h2) (k:=?_)|refine Tc ?_|exact Tz)
 repeat (first|refine Ta ?_|(refine Tm ?_;intro _)|refine WO.does (zw (len:=4) (i:=2) rfl rfl (by decide) rfl) ?_|refine WO.acall (hc:=h3) (k:=?_)|refine Tc ?_|exact Tz)
 repeat (first|refine Ta ?_|(refine Tm ?_;intro _)|refine WO.does (zw (len:=4) (i:=3) rfl rfl (by decide) rfl) ?_|refine WO.acall (hc:=h4) (k:=?_)|refine Tc ?_|exact Tz)
 repeat (first|refine Ta ?_|(refine Tm ?_;intro _)|refine WO.acall (hc:=h5) (k:=?_)|refine WO.acall (hc:=h6) (k:=?_)|refine WO.acall (hc:=hU) (k:=?_)|refine Tc ?_|exact Tz)
 refine WC.adraw 25 (k:=?_)
 repeat (first|refine Da ?_|refine DQ.acall (hc:=m1) (k:=?_)|refine DQ.acall (hc:=m2) (k:=?_)|refine DQ.makes (fun s _=>ze (cs:=zc base++(zc a++(zc y++(zc b++(zc P1++zc P2))))) rfl (by decide) rfl) Dp.const Dp.const ?_|refine DQ.acallB 19 (fun s=>⟨s 19 0,24,zc base++(zc a++(zc y++(zc b++(zc P1++zc P2))))⟩) (fun s=>hC (s 19 0)) (fun s w hm=>Hs.seg Hs.here hm) ?_|refine DQ.does (fun s _=>zZ) Dp.const ?_|refine Dc ?_)
 refine DQ.anil (k:=?_);intro sx _
 repeat (first|refine Tw ?_|(refine Tm ?_;intro _)|exact Tz)
 done
theorem abk (base a y b c S:Nat) (hp:p<zb) (hq:q<zb) (hbs:base<zb) (ha:a<zb) (hy:y<zb) (hb:b<zb) (hc:c<zb) (hS:S<zb) (hs:s.size≤68719476736) :
  Fn Tryz.prog 33 [yd p q g h,.string s,zf base,zf a,zf y,zf b,pfV c S] Tr (Is (.bool (ckB p q (zN s) base a y b c S))):=by
 unfold ckB;cases hB:(gIn p q base && gIn p q a && gIn p q y && gIn p q b && zD c c q && zD S S q) with
 | false=>rw[Bool.false_and];exact bQ p q g h s base a y b c S hp hq hbs ha hy hb hc hS hB
 | true=>rw[Bool.true_and];exact av p q g h s base a y b c S hp hq hbs ha hy hb hc hS hs hB
end
end Sx
end
section
open Go Go.RowKit Go.BigFrame
namespace Sx
theorem bD (n:Nat) (h:n<256):Tryz.prog.keyLits 1 5 [.int .u8 (n:Int)]=some [.int .u8 (n:Int)]:=by
 have hw:(Lit.int .u8 (n:Int)).wf=true:=by
  simp[Lit.wf,IntKind.min,IntKind.max,IntKind.signed,IntKind.bits];omega
 simp[Program.keyLits,Tryz.underlying5,hw]
abbrev yO (a b:Nat):List Value:=[.int .u64 ((wd 0 a:Nat):Int),.int .u64 ((wd 1 a:Nat):Int),.int .u64 ((wd 2 a:Nat):Int),.int .u64 ((wd 3 a:Nat):Int),.int .u64 ((wd 0 b:Nat):Int),.int .u64 ((wd 1 b:Nat):Int),.int .u64 ((wd 2 b:Nat):Int),.int .u64 ((wd 3 b:Nat):Int)]
theorem abo (a b:Nat):∃ l,Tryz.prog.keyLits 3 70 (yO a b)=some l:=by
 have c1:Tryz.prog.cellsOf 70=8:=by kernel_rfl
 have c2:Tryz.prog.cellsOf 24=4:=by kernel_rfl
 have k1:=yY a;have k2:=yY b;unfold Program.keyLits;simp[Tryz.underlying70,c1,c2,zc] at k1 k2 ⊢;simp[k1,k2]
theorem dD (a b:Nat):∃ l,Tryz.prog.keyLits 3 67 (yO a b)=some l:=by
 have c1:Tryz.prog.cellsOf 67=8:=by kernel_rfl
 have c2:Tryz.prog.cellsOf 24=4:=by kernel_rfl
 have k1:=yY a;have k2:=yY b;unfold Program.keyLits;simp[Tryz.underlying67,c1,c2,zc] at k1 k2 ⊢;simp[k1,k2]
theorem acj (a b:Nat):∃ l,Tryz.prog.keyLits 3 33 (yO a b)=some l:=by
 have c1:Tryz.prog.cellsOf 33=8:=by kernel_rfl
 have c2:Tryz.prog.cellsOf 24=4:=by kernel_rfl
 have k1:=yY a;have k2:=yY b;unfold Program.keyLits;simp[Tryz.underlying33,c1,c2,zc] at k1 k2 ⊢;simp[k1,k2]
theorem fC (p q g h:Nat):∃ l,Tryz.prog.keyLits 3 26 (zR p q g h)=some l:=by
 have c1:Tryz.prog.cellsOf 26=16:=by kernel_rfl
 have c2:Tryz.prog.cellsOf 24=4:=by kernel_rfl
 have k1:=yY p;have k2:=yY q;have k3:=yY g;have k4:=yY h;unfold Program.keyLits;simp[Tryz.underlying26,c1,c2,zc] at k1 k2 k3 k4 ⊢;simp[k1,k2,k3,k4]
theorem tn {t d m D:Nat} {cs:List Value} (hk:Tryz.prog.keyTypeAt m t=true) (hm:d+m=10000) (hf:(Value.agg cs.toArray).formed Tryz.prog t=true) (hl:∃ l,Tryz.prog.keyLits D t cs=some l) (w:World) :
  (Op.equalIn 10000 t (.agg cs.toArray) (.agg cs.toArray)).run Tryz.prog w=.ok true w:=by
 obtain⟨l,hl⟩:=hl;have hl' : Tryz.prog.keyLits D t (Value.agg cs.toArray).cells.toList=some l:=by simpa [Value.cells] using hl
 obtain⟨r,hr,hiff⟩:=run_equalIn_deep (P:=Tryz.prog) d m t hk w D D _ _ l l hf hf hl' hl';rw[hm] at hr;rw[hr,hiff.2 rfl]
theorem bR (a:Nat) (w:World):(Op.equalIn 10000 24 (.agg (zc a).toArray) (.agg (zc a).toArray)).run Tryz.prog w=.ok true w:=tn (d:=9998) (m:=2) (D:=2) (by kernel_rfl) rfl (by kernel_rfl) ⟨_,yY a⟩ w
theorem aD (a b:Nat) (w:World):(Op.equalIn 10000 70 (.agg (yO a b).toArray) (.agg (yO a b).toArray)).run Tryz.prog w=.ok true w:=tn (d:=9997) (m:=3) (D:=3) (by kernel_rfl) rfl (by kernel_rfl) (abo a b) w
theorem gh (a b:Nat) (w:World):(Op.equalIn 10000 67 (.agg (yO a b).toArray) (.agg (yO a b).toArray)).run Tryz.prog w=.ok true w:=tn (d:=9997) (m:=3) (D:=3) (by kernel_rfl) rfl (by kernel_rfl) (dD a b) w
theorem cS (a b:Nat) (w:World):(Op.equalIn 10000 33 (.agg (yO a b).toArray) (.agg (yO a b).toArray)).run Tryz.prog w=.ok true w:=tn (d:=9997) (m:=3) (D:=3) (by kernel_rfl) rfl (by kernel_rfl) (acj a b) w
theorem gq (p q g h:Nat) (w:World):(Op.equalIn 10000 26 (.agg (zR p q g h).toArray) (.agg (zR p q g h).toArray)).run Tryz.prog w=.ok true w:=tn (d:=9997) (m:=3) (D:=3) (by kernel_rfl) rfl (by kernel_rfl) (fC p q g h) w
theorem eG (op:BinOp) (x y:Operand) (a b:Array Value) (w:World):(eqGuard op 70 x y (.agg a) (.agg b)).run Tryz.prog w=.ok () w:=by cases op<;>kernel_rfl
theorem jo (op:BinOp) (x y:Operand) (a b:Array Value) (w:World):(eqGuard op 67 x y (.agg a) (.agg b)).run Tryz.prog w=.ok () w:=by cases op<;>kernel_rfl
theorem lh (op:BinOp) (x y:Operand) (a b:Array Value) (w:World):(eqGuard op 33 x y (.agg a) (.agg b)).run Tryz.prog w=.ok () w:=by cases op<;>kernel_rfl
theorem lZ (op:BinOp) (x y:Operand) (a b:Array Value) (w:World):(eqGuard op 26 x y (.agg a) (.agg b)).run Tryz.prog w=.ok () w:=by cases op<;>kernel_rfl
section
variable {P:Program} {w0:World} {gs:List Nat} {K:List (Nat × Value)} {L:List Ent}
theorem nQ {t yt ty:TypeId} {x y:Operand} {cs:List Value} (hx:ev K x=some (.agg cs.toArray)) (hy:ev K y=some (.agg cs.toArray)) (hs:∀ w,(Op.equalIn 10000 t (.agg cs.toArray) (.agg cs.toArray)).run P w=.ok true w)
  (hg:∀ w,(eqGuard .eql t x y (.agg cs.toArray) (.agg cs.toArray)).run P w=.ok () w):Does P w0 gs K L (.binOp .eql t x y yt) ty (.bool true):=by
 intro ac w hk _ o ho _;simp only[execOp,ho,hk.eval hx,hk.eval hy,Sem.run_bind,hg,Result.andThen_ok,run_eql_struct,hs,Sem.run_pure]
theorem qo {t yt ty:TypeId} {x y:Operand} {cs:List Value} (hx:ev K x=some (.agg cs.toArray)) (hy:ev K y=some (.agg cs.toArray)) (hs:∀ w,(Op.equalIn 10000 t (.agg cs.toArray) (.agg cs.toArray)).run P w=.ok true w)
  (hg:∀ w,(eqGuard .neq t x y (.agg cs.toArray) (.agg cs.toArray)).run P w=.ok () w):Does P w0 gs K L (.binOp .neq t x y yt) ty (.bool false):=by
 intro ac w hk _ o ho _;simp only[execOp,ho,hk.eval hx,hk.eval hy,Sem.run_bind,hg,Result.andThen_ok,run_neq_struct,hs,Sem.run_pure,Bool.not_true]
end
theorem gT:∀ (H:List Nat),(∀ b∈H,b<256)→∀ i,i<H.length→∃ l,Tryz.prog.keyLits 1 5 (((byC H).drop (i*1)).take 1)=some l:=by
 intro H hH i hi;have h1:H[i]?=some H[i]:=List.getElem?_eq_getElem hi;have h2:((byC H).drop (i*1)).take 1=[.int .u8 ((H[i]:Nat):Int)]:=by
  rw[Nat.mul_one,List.drop_eq_getElem_cons (by rw[zd];exact hi)];simp[byC]
 rw[h2];exact⟨_,bD _ (hH _ (List.getElem_mem hi))⟩
theorem ic {α β:Type} (f:α→Option β):∀ L:List α,(∀ i∈L,∃ l,f i=some l)→∃ ls,L.mapM f=some ls
 | [],_=>⟨[],rfl⟩
 | a::L,h=>by
  obtain⟨x,hx⟩:=h a List.mem_cons_self;obtain⟨ls,hls⟩:=ic f L (fun i hi=>h i (List.mem_cons_of_mem _ hi));exact⟨x::ls,by simp[List.mapM_cons,hx,hls]⟩
theorem bm (H:List Nat) (hH:∀ b∈H,b<256) (hl:H.length=32):∃ l,Tryz.prog.keyLits 2 45 (byC H)=some l:=by
 have c1:Tryz.prog.cellsOf 45=32:=by kernel_rfl
 have c2:Tryz.prog.cellsOf 5=1:=by kernel_rfl
 have hb:(byC H).length=32:=by rw[zd];exact hl
 obtain⟨ls,hls⟩:=ic (fun i=>Tryz.prog.keyLits 1 5 (((byC H).drop (i*1)).take 1)) (List.range 32) (fun i hi=>gT H hH i (by have:=List.mem_range.1 hi;omega));refine⟨ls.flatten,?_⟩;rw[Program.keyLits.eq_def];simp only[Tryz.underlying45,c1,c2,hb,if_true];rw[hls];rfl
theorem eW (H:List Nat) (hH:∀ b∈H,b<256) (hl:H.length=32) (w:World):(Op.equalIn 10000 45 (.agg (byC H).toArray) (.agg (byC H).toArray)).run Tryz.prog w=.ok true w:=by
 refine tn (d:=9998) (m:=2) (D:=2) (by kernel_rfl) rfl ?_ (bm H hH hl) w;have c1:Tryz.prog.cellsOf 45=32:=by kernel_rfl
 have hb:(byC H).length=32:=by rw[zd];exact hl
 simp[Value.formed,Tryz.underlying45,c1,hb]
theorem fm (op:BinOp) (x y:Operand) (a b:Array Value) (w:World):(eqGuard op 45 x y (.agg a) (.agg b)).run Tryz.prog w=.ok () w:=by cases op<;>kernel_rfl
section
variable {w0:World} {gs:List Nat} {K:List (Nat × Value)} {L:List Ent}
theorem aX {x y:Operand} {yt ty:TypeId} {H:List Nat} (hH:∀ b∈H,b<256) (hl:H.length=32) (hx:ev K x=some (.agg (byC H).toArray)) (hy:ev K y=some (.agg (byC H).toArray)):Does Tryz.prog w0 gs K L (.binOp .eql 45 x y yt) ty (.bool true) :=
 nQ hx hy (fun w=>eW H hH hl w) (fun w=>fm _ _ _ _ _ w)
end
end Sx
end
end Go.Proofs.YtbbppkkhidkjpaaGreatDoor
