/- Part 31 of the proof. -/
import Derived.Test.YtiaibpcaloigkaaGreatDoorG30
set_option linter.unusedSimpArgs false
set_option linter.unusedVariables false
set_option maxHeartbeats 8000000
namespace Go.Proofs.YtiaibpcaloigkaaGreatDoor
section
open Go Go.RowKit Go.BigFrame
namespace Sx
attribute [local irreducible] DQ WC WO WX wd
section
variable (p q g h:Nat)
theorem dh (key:Nat) (H:LN) (hl:H.length=32) :
  Fn Tryz.prog 160 [vV p q g h,zk key,.agg (byC H).toArray] Tr
   (Ex (fun x=>.func (.func 203) #[] #[pt (x 0),pt (x 1),pt (x 2)]) (fun x=>[⟨x 2,70,byC H⟩,⟨x 1,24,zc key⟩,⟨x 0,26,yI p q g h⟩]) (fun _=>True)):=by
 have hbH:(byC H).length=32:=by rw[zd,hl]
 refine Fn.enter Tryz.func160 rfl rfl rfl ?_;intro w hw
 repeat (first|refine Tj ?_|intro _|refine WO.does (zH rfl rfl) ?_|refine Tc ?_|exact Tz)
 rename_i g3 g4 g5;exact WX.ret1 rfl Rv.t [⟨g5,70,byC H⟩,⟨g4,24,zc key⟩,⟨g3,26,yI p q g h⟩] (by repeat (first|exact Lle.nil|refine Lle.c ?_)) ⟨fun i=>if i=0 then g3 else if i=1 then g4 else g5,rfl,rfl,trivial⟩
theorem adz (x d c S:Nat) (H:LN) (hp:p<ze) (hq:q<ze) (hg:g<ze) (hx:x<ze) (hd:d<ze) (hl:H.length=32) (hB:sgB p q g x d=false) :
  Fn Tryz.prog 146 [vV p q g h,zk x,.agg (byC H).toArray,zk d] Tr (Is (prV false c S)):=by
 have hE:=vQ p q g h g x hg hx hp;have hX:=fun b=>eZ p q g h [x,d] (some ⟨b,0,none⟩) 2 (by intro a ha;simp only[List.mem_cons,List.not_mem_nil,or_false] at ha;rcases ha with rfl|rfl<;>assumption) (by show 2≤1099511627776;omega) hq;have hbH:(byC H).length=32:=by rw[zd,hl]
 unfold sgB at hB;cases e1:yB p g with
 | false =>
  rw[e1] at hE;refine Fn.enter Tryz.func146 rfl rfl rfl ?_;intro w hw
  repeat (first|refine Tj ?_|intro _|refine WO.acall (hc:=hE) (k:=?_)|refine WO.does (yR rfl rfl Dtt) ?_|refine Tc ?_|exact Tz)
  done
 | true =>
 rw[e1] at hE hB;generalize g ^ x%p=y at *;cases e2:decide (x=0) with
 | true =>
  refine Fn.enter Tryz.func146 rfl rfl rfl ?_;intro w hw
  repeat (first|refine Tj ?_|intro _|refine WO.acall (hc:=hE) (k:=?_)|refine WO.does (zA rfl rfl rfl) ?_|refine WO.does (zB rfl rfl hx zE e2) ?_|refine Tc ?_|exact Tz)
  done
 | false =>
 cases e3:decide (d=0) with
 | true =>
  refine Fn.enter Tryz.func146 rfl rfl rfl ?_;intro w hw
  repeat (first|refine Tj ?_|intro _|refine WO.acall (hc:=hE) (k:=?_)|refine WO.does (zA rfl rfl rfl) ?_|refine WO.does (zB rfl rfl hx zE e2) ?_|refine WO.does (zB rfl rfl hd zE e3) ?_|refine Tc ?_|exact Tz)
  done
 | false =>
 have e4:([x,d].all fun x=>zP x x q)=false:=by
  simp at e2 e3;simpa [e2,e3] using hB
 rw[e4] at hX;refine Fn.enter Tryz.func146 rfl rfl rfl ?_;intro w hw
 repeat (first|refine Tj ?_|intro _|refine WO.acall (hc:=hE) (k:=?_)|refine WO.does (zA rfl rfl rfl) ?_|refine WO.does (zB rfl rfl hx zE e2) ?_|refine WO.does (zB rfl rfl hd zE e3) ?_|(refine WO.makes (zh (cs:=zc x++zc d) rfl Dtt rfl) ?_;intro _)|refine WO.acallR (hc:=hX _) (hR:=fun w1 hm=>RdF.seg (f:=zc) (xs:=[x,d]) (r:=[]) (Hs.sg hm)) (k:=?_)|refine Tc ?_|exact Tz)
 done
theorem adW (x d c:Nat) (H:LN) (hp:p<ze) (hq:q<ze) (hg:g<ze) (hx:x<ze) (hd:d<ze) (hH:∀ b∈H,b<256) (hl:H.length=32) (hB:sgB p q g x d=true) (hc:sgC p q g x d H=c) :
  Fn Tryz.prog 146 [vV p q g h,zk x,.agg (byC H).toArray,zk d] Tr (Is (prV true c ((d+x*c%q)%q))):=by
 have hE1:=vQ p q g h g x hg hx hp;have hE2:=vQ p q g h g d hg hd hp;have hX:=fun b=>eZ p q g h [x,d] (some ⟨b,0,none⟩) 2 (by intro a ha;simp only[List.mem_cons,List.not_mem_nil,or_false] at ha;rcases ha with rfl|rfl<;>assumption) (by show 2≤1099511627776;omega) hq;have hbH:(byC H).length=32:=by rw[zd,hl]
 unfold sgB at hB;simp only[Bool.and_eq_true,decide_eq_true_eq] at hB;obtain⟨⟨⟨⟨e1,e2⟩,e3⟩,e4⟩,e5⟩:=hB;rw[e1] at hE1 hE2;have d4:decide (x=0)=false:=decide_eq_false e4;have d5:decide (d=0)=false:=decide_eq_false e5;rw[show ([x,d].all fun x=>zP x x q)=true by simp[e2,e3]] at hX;have hq1:=(zQ e2).1;have hxq:=(zQ e2).2.1;have hdq:=(zQ e3).2.1;have hcl:c<q:=by rw[← hc];exact vX Om _ _
 have hCh:=fun gG gK gH=>jz p q g h (g ^ x%p) (g ^ d%p) gG gK gH H hq Om hH hl;rw[show eo q (g ^ x%p) (g ^ d%p) H=c from hc] at hCh;have hM:=ju p q g h x c hx (Nat.lt_trans hcl hq) hq;rw[show zP x c q=true by simp[zP,hq1,hxq,hcl]] at hM;have hml:x*c%q<q:=Nat.mod_lt _ Om;have hA:=mF p q g h d (x*c%q) hd (Nat.lt_trans hml hq) hq;rw[show zP d (x*c%q) q=true by simp[zP,hq1,hdq,hml]] at hA;have hS:=dh p q g h (g ^ x%p) H hl;clear hc;generalize (d+x*c%q)%q=S at *;generalize x*c%q=M at *;generalize g ^ x%p=P1 at *;generalize g ^ d%p=P2 at *;refine Fn.enter Tryz.func146 rfl rfl rfl ?_;intro w hw
 repeat (first|refine Tj ?_|intro _|refine WO.acall (hc:=hE1) (k:=?_)|refine WO.acall (hc:=hE2) (k:=?_)|refine WO.does (zA rfl rfl rfl) ?_|refine WO.does (zB rfl rfl hx zE d4) ?_|refine WO.does (zB rfl rfl hd zE d5) ?_|(refine WO.makes (zh (cs:=zc x++zc d) rfl Dtt rfl) ?_;intro _)|refine WO.acallR (hc:=hX _) (hR:=fun w1 hm=>RdF.seg (f:=zc) (xs:=[x,d]) (r:=[]) (Hs.sg hm)) (k:=?_)|refine Tc ?_|exact Tz)
 refine WC.adraw 7 (k:=?_)
 iterate 2 (refine DQ.auto (k:=?_))
 refine DQ.does (fun s _=>zw (vs:=byC H) (hc:=zt hbH) (hl:=hbH)) Dp.const ?_
 refine DQ.callsE (fs:=fun _=>[]) (cs:=fun _=>[]) (R:=fun _=>Tr) (vf:=fun _ x=>.func (.func 203) #[] #[pt (x 0),pt (x 1),pt (x 2)]) (Nf:=fun _ x=>[⟨x 2,70,byC H⟩,⟨x 1,24,zc P1⟩,⟨x 0,26,yI p q g h⟩]) (S:=fun _ _=>True) (fun _=>[]) (fun _=>.nil)
  (fun _=>⟨fun _=>0,trivial⟩) (fun _ _=>hS) (fun _=>rfl) (fun _=>rfl) (fun _=>rfl) (fun _ _ w hm=>trivial) Dp.const Dp.const Dp.const ?_
 try dsimp only[List.map_cons,List.map_nil,List.cons_append,List.nil_append]
 refine DQ.auto (k:=?_)
 refine DQ.callsE (fs:=fun _=>[]) (cs:=fun s=>[pt (s 3 0),pt (s 3 1),pt (s 3 2)]) (R:=fun s w=>Seg w (s 3 0) 0 (yI p q g h)∧Seg w (s 3 1) 0 (zc P1)∧Seg w (s 3 2) 0 (byC H)) (vf:=fun _ _=>zk c) (Nf:=fun _ _=>[]) (S:=fun _ _=>True) (fun s=>[⟨s 3 2,70,byC H⟩,⟨s 3 1,24,zc P1⟩,⟨s 3 0,26,yI p q g h⟩])
  (fun s=>.cons 3 Mh.a Dkk (.cons 3 Mh.a Dkk (.cons 3 Mh.a Dkk .nil)))
  (fun _=>⟨fun _=>0,trivial⟩) (fun s _=>(hCh (s 3 0) (s 3 1) (s 3 2)).ex) (fun _=>rfl) (fun _=>rfl) (fun _=>rfl) (fun s _ w hm=>⟨Hs.seg (.there (.there .here)) hm,Hs.seg (.there .here) hm,Hs.seg .here hm⟩) Dp.const Dp.const Dp.const ?_
 try dsimp only[List.map_cons,List.map_nil,List.cons_append,List.nil_append]
 refine DQ.autoM (k:=?_);refine DQ.anil (k:=?_);intro sx _;generalize sx 6 0=gC
 repeat (first|refine Tj ?_|intro _|refine WO.acall (hc:=hM) (k:=?_)|refine WO.acall (hc:=hA) (k:=?_)|refine Tc ?_|exact Tz)
 done
theorem acx (x d:Nat) (H:LN) (hp:p<ze) (hq:q<ze) (hg:g<ze) (hx:x<ze) (hd:d<ze) (hH:∀ b∈H,b<256) (hl:H.length=32) :
  Fn Tryz.prog 146 [vV p q g h,zk x,.agg (byC H).toArray,zk d] Tr (Is (prV (sgB p q g x d) (sgC p q g x d H) ((d+x*sgC p q g x d H%q)%q))):=by
 generalize hc:sgC p q g x d H=c;cases hB:sgB p q g x d with
 | false=>exact adz p q g h x d c _ H hp hq hg hx hd hl hB
 | true=>exact adW p q g h x d c H hp hq hg hx hd hH hl hB hc
end
end Sx
end
end Go.Proofs.YtiaibpcaloigkaaGreatDoor
