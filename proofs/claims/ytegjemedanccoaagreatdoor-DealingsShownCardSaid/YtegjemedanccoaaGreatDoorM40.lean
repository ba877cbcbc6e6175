/- Part 40 of the proof. -/
import Derived.Test.YtegjemedanccoaaGreatDoorM39
set_option linter.unusedSimpArgs false
set_option linter.unusedVariables false
set_option maxHeartbeats 8000000
namespace Go.Proofs.YtegjemedanccoaaGreatDoor
section
open Go Go.RowKit Go.BigFrame
namespace Sx
attribute [local irreducible] DQ DQS WC WO WX wd
section
variable (p q g h:Nat)
theorem fA (key:Nat) (H:List Nat) (hl:H.length=32) :
  Fn Tryz.prog 80 [yh p q g h,ze key,.agg (byC H).toArray] Tr
   (Ex (fun x=>.func (.func 118) #[] #[pt (x 0),pt (x 1),pt (x 2)]) (fun x=>[⟨x 2,72,byC H⟩,⟨x 1,24,zb key⟩,⟨x 0,26,zJ p q g h⟩]) (fun _=>True)):=by
 have hbH:(byC H).length=32:=by rw[zf,hl]
 refine Fn.enter Tryz.func80 rfl rfl rfl ?_;intro w hw
 repeat (first|refine Ta ?_|(refine Tm ?_;intro _)|refine WO.does (zO rfl rfl) ?_|refine Tc ?_|exact Tz)
 rename_i g3 g4 g5;exact WX.ret1 rfl (by exact zr rfl) [⟨g5,72,byC H⟩,⟨g4,24,zb key⟩,⟨g3,26,zJ p q g h⟩] (by repeat (first|exact Lle.nil|refine Lle.c ?_)) ⟨fun i=>if i=0 then g3 else if i=1 then g4 else g5,rfl,rfl,trivial⟩
theorem aah (x d c S:Nat) (H:List Nat) (hp:p<zc) (hq:q<zc) (hg:g<zc) (hx:x<zc) (hd:d<zc) (hl:H.length=32) (hB:sgB p q g x d=false) :
  Fn Tryz.prog 35 [yh p q g h,ze x,.agg (byC H).toArray,ze d] Tr (Is (prV false c S)):=by
 have hE:=uk p q g h g x hg hx hp;have hX:=fun b=>f9 p q g h [x,d] (some ⟨b,0,none⟩) 2 (by intro a ha;simp only[List.mem_cons,List.not_mem_nil,or_false] at ha;rcases ha with rfl|rfl<;>assumption) (by show 2≤1099511627776;omega) hq;have hbH:(byC H).length=32:=by rw[zf,hl]
 unfold sgB at hB;cases e1:yC p g with
 | false =>
  rw[e1] at hE;refine Fn.enter Tryz.func35 rfl rfl rfl ?_;intro w hw
  repeat (first|refine Ta ?_|(refine Tm ?_;intro _)|refine WO.acall (hc:=hE) (k:=?_)|refine WO.does (yk rfl rfl (by decide)) ?_|refine Tc ?_|exact Tz)
  done
 | true =>
 rw[e1] at hE hB;generalize g ^ x%p=y at *;cases e2:decide (x=0) with
 | true =>
  refine Fn.enter Tryz.func35 rfl rfl rfl ?_;intro w hw
  repeat (first|refine Ta ?_|(refine Tm ?_;intro _)|refine WO.acall (hc:=hE) (k:=?_)|refine WO.does (zK rfl rfl rfl) ?_|refine WO.does (yZ rfl rfl hx zp e2) ?_|refine Tc ?_|exact Tz)
  done
 | false =>
 cases e3:decide (d=0) with
 | true =>
  refine Fn.enter Tryz.func35 rfl rfl rfl ?_;intro w hw
  repeat (first|refine Ta ?_|(refine Tm ?_;intro _)|refine WO.acall (hc:=hE) (k:=?_)|refine WO.does (zK rfl rfl rfl) ?_|refine WO.does (yZ rfl rfl hx zp e2) ?_|refine WO.does (yZ rfl rfl hd zp e3) ?_|refine Tc ?_|exact Tz)
  done
 | false =>
 have e4:([x,d].all fun x=>zF x x q)=false:=by
  simp at e2 e3;simpa [e2,e3] using hB
 rw[e4] at hX;refine Fn.enter Tryz.func35 rfl rfl rfl ?_;intro w hw
 repeat (first|refine Ta ?_|(refine Tm ?_;intro _)|refine WO.acall (hc:=hE) (k:=?_)|refine WO.does (zK rfl rfl rfl) ?_|refine WO.does (yZ rfl rfl hx zp e2) ?_|refine WO.does (yZ rfl rfl hd zp e3) ?_|(refine WO.makes (zd (cs:=zb x++zb d) rfl (by decide) rfl) ?_;intro _)|refine WO.acallR (hc:=hX _) (hR:=fun w1 hm=>RdF.seg (f:=zb) (xs:=[x,d]) (r:=[]) (Hs.sg hm)) (k:=?_)|refine Tc ?_|exact Tz)
 done
theorem abq (x d c:Nat) (H:List Nat) (hp:p<zc) (hq:q<zc) (hg:g<zc) (hx:x<zc) (hd:d<zc) (hH:∀ b∈H,b<256) (hl:H.length=32) (hB:sgB p q g x d=true) (hc:sgC p q g x d H=c) :
  Fn Tryz.prog 35 [yh p q g h,ze x,.agg (byC H).toArray,ze d] Tr (Is (prV true c ((d+x*c%q)%q))):=by
 have hE1:=uk p q g h g x hg hx hp;have hE2:=uk p q g h g d hg hd hp;have hX:=fun b=>f9 p q g h [x,d] (some ⟨b,0,none⟩) 2 (by intro a ha;simp only[List.mem_cons,List.not_mem_nil,or_false] at ha;rcases ha with rfl|rfl<;>assumption) (by show 2≤1099511627776;omega) hq;have hbH:(byC H).length=32:=by rw[zf,hl]
 unfold sgB at hB;simp only[Bool.and_eq_true,decide_eq_true_eq] at hB;obtain⟨⟨⟨⟨e1,e2⟩,e3⟩,e4⟩,e5⟩:=hB;rw[e1] at hE1 hE2;have d4:decide (x=0)=false:=decide_eq_false e4;have d5:decide (d=0)=false:=decide_eq_false e5;rw[show ([x,d].all fun x=>zF x x q)=true by simp[e2,e3]] at hX;have hq1:=(zG e2).1;have hxq:=(zG e2).2.1;have hdq:=(zG e3).2.1;have hcl:c<q:=by rw[← hc];exact vM (by omega) _ _
 have hCh:=fun gG gK gH=>kG p q g h (g ^ x%p) (g ^ d%p) gG gK gH H hq (by omega) hH hl;rw[show eC q (g ^ x%p) (g ^ d%p) H=c from hc] at hCh;have hM:=kC p q g h x c hx (Nat.lt_trans hcl hq) hq;rw[show zF x c q=true by simp[zF,hq1,hxq,hcl]] at hM;have hml:x*c%q<q:=Nat.mod_lt _ (by omega);have hA:=nF p q g h d (x*c%q) hd (Nat.lt_trans hml hq) hq;rw[show zF d (x*c%q) q=true by simp[zF,hq1,hdq,hml]] at hA;have hS:=fA p q g h (g ^ x%p) H hl;clear hc;generalize (d+x*c%q)%q=S at *;generalize x*c%q=M at *;generalize g ^ x%p=P1 at *;generalize g ^ d%p=P2 at *;refine Fn.enter Tryz.func35 rfl rfl rfl ?_;intro w hw
 repeat (first|refine Ta ?_|(refine Tm ?_;intro _)|refine WO.acall (hc:=hE1) (k:=?_)|refine WO.acall (hc:=hE2) (k:=?_)|refine WO.does (zK rfl rfl rfl) ?_|refine WO.does (yZ rfl rfl hx zp d4) ?_|refine WO.does (yZ rfl rfl hd zp d5) ?_|(refine WO.makes (zd (cs:=zb x++zb d) rfl (by decide) rfl) ?_;intro _)|refine WO.acallR (hc:=hX _) (hR:=fun w1 hm=>RdF.seg (f:=zb) (xs:=[x,d]) (r:=[]) (Hs.sg hm)) (k:=?_)|refine Tc ?_|exact Tz)
 refine WC.adraw 7 (k:=?_)
 iterate 2 (refine DQ.auto (k:=?_))
 refine DQ.does (fun s _=>zy (vs:=byC H) (hc:=yd hbH) (hl:=hbH)) Dp.const ?_
 refine DQ.callsE (fs:=fun _=>[]) (cs:=fun _=>[]) (R:=fun _=>Tr) (vf:=fun _ x=>.func (.func 118) #[] #[pt (x 0),pt (x 1),pt (x 2)]) (Nf:=fun _ x=>[⟨x 2,72,byC H⟩,⟨x 1,24,zb P1⟩,⟨x 0,26,zJ p q g h⟩]) (S:=fun _ _=>True) (fun _=>[]) (fun _=>.nil)
  (fun _=>⟨fun _=>0,trivial⟩) (fun _ _=>hS) (fun _=>rfl) (fun _=>rfl) (fun _=>rfl) (fun _ _ w hm=>trivial) Dp.const Dp.const Dp.const ?_
 try dsimp only[List.map_cons,List.map_nil,List.cons_append,List.nil_append]
 refine DQ.auto (k:=?_)
 refine DQ.callsE (fs:=fun _=>[]) (cs:=fun s=>[pt (s 3 0),pt (s 3 1),pt (s 3 2)]) (R:=fun s w=>Seg w (s 3 0) 0 (zJ p q g h)∧Seg w (s 3 1) 0 (zb P1)∧Seg w (s 3 2) 0 (byC H)) (vf:=fun _ _=>ze c) (Nf:=fun _ _=>[]) (S:=fun _ _=>True) (fun s=>[⟨s 3 2,72,byC H⟩,⟨s 3 1,24,zb P1⟩,⟨s 3 0,26,zJ p q g h⟩])
  (fun s=>.cons 3 (by repeat (first|exact .head _|apply List.Mem.tail)) (by decide +kernel) (.cons 3 (by repeat (first|exact .head _|apply List.Mem.tail)) (by decide +kernel) (.cons 3 (by repeat (first|exact .head _|apply List.Mem.tail)) (by decide +kernel) .nil)))
  (fun _=>⟨fun _=>0,trivial⟩) (fun s _=>(hCh (s 3 0) (s 3 1) (s 3 2)).ex) (fun _=>rfl) (fun _=>rfl) (fun _=>rfl) (fun s _ w hm=>⟨Hs.seg (.there (.there .here)) hm,Hs.seg (.there .here) hm,Hs.seg .here hm⟩) Dp.const Dp.const Dp.const ?_
 try dsimp only[List.map_cons,List.map_nil,List.cons_append,List.nil_append]
 refine DQ.autoM (k:=?_);refine DQ.anil (k:=?_);intro sx _;generalize sx 6 0=gC
 repeat (first|refine Ta ?_|(refine Tm ?_;intro _)|refine WO.acall (hc:=hM) (k:=?_)|refine WO.acall (hc:=hA) (k:=?_)|refine Tc ?_|exact Tz)
 done
theorem acv (x d:Nat) (H:List Nat) (hp:p<zc) (hq:q<zc) (hg:g<zc) (hx:x<zc) (hd:d<zc) (hH:∀ b∈H,b<256) (hl:H.length=32) :
  Fn Tryz.prog 35 [yh p q g h,ze x,.agg (byC H).toArray,ze d] Tr (Is (prV (sgB p q g x d) (sgC p q g x d H) ((d+x*sgC p q g x d H%q)%q))):=by
 generalize hc:sgC p q g x d H=c;cases hB:sgB p q g x d with
 | false=>exact aah p q g h x d c _ H hp hq hg hx hd hl hB
 | true=>exact abq p q g h x d c H hp hq hg hx hd hH hl hB hc
end
end Sx
end
end Go.Proofs.YtegjemedanccoaaGreatDoor
