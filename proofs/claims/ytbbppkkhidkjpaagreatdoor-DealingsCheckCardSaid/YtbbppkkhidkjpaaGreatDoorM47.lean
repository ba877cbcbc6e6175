/- Part 47 of the proof. -/
import Derived.Test.YtbbppkkhidkjpaaGreatDoorM45
set_option linter.unusedSimpArgs false
set_option linter.unusedVariables false
set_option maxHeartbeats 8000000
namespace Go.Proofs.YtbbppkkhidkjpaaGreatDoor
section
open Go Go.RowKit Go.BigFrame
namespace Sx
theorem jB (a b:Nat):Tryz.prog.keyLits 3 33 (yO a b)=some [.int .u64 ((wd 0 a:Nat):Int),.int .u64 ((wd 1 a:Nat):Int),.int .u64 ((wd 2 a:Nat):Int),.int .u64 ((wd 3 a:Nat):Int),.int .u64 ((wd 0 b:Nat):Int),.int .u64 ((wd 1 b:Nat):Int),.int .u64 ((wd 2 b:Nat):Int),.int .u64 ((wd 3 b:Nat):Int)]:=by
 have c1:Tryz.prog.cellsOf 33=8:=by kernel_rfl
 have c2:Tryz.prog.cellsOf 24=4:=by kernel_rfl
 have k1:=yY a;have k2:=yY b;unfold Program.keyLits;simp[Tryz.underlying33,c1,c2,zc] at k1 k2 ⊢;simp[k1,k2]
theorem aM {a b c:Nat} (ha:a<zb) (hb:b<zb) (w:World):(Op.equalIn 10000 33 (.agg (yO a c).toArray) (.agg (yO b c).toArray)).run Tryz.prog w=.ok (decide (a=b)) w:=by
 obtain⟨r,hr,hiff⟩:=run_equalIn_deep (P:=Tryz.prog) 9997 3 33 (by kernel_rfl) w 3 3 (.agg (yO a c).toArray) (.agg (yO b c).toArray) _ _ (by kernel_rfl) (by kernel_rfl) (jB a c) (jB b c);have e:r=decide (a=b):=by
  rw[Bool.eq_iff_iff,hiff];simp only[decide_eq_true_eq,List.cons.injEq,Lit.int.injEq,true_and,and_true,Int.ofNat_inj];constructor
  ·rintro ⟨h0,h1,h2,h3⟩;exact aaO ha hb h0 h1 h2 h3
  ·rintro rfl;exact⟨rfl,rfl,rfl,rfl⟩
 rw[hr,e]
theorem jR:over (zc 0) (0*1) (cellsOf (Value.int .u64 1))=zc 1:=by kernel_rfl
section
attribute [local irreducible] wd
variable {w0:World} {gs:List Nat} {K:List (Nat × Value)} {L:List Ent}
theorem bL {x y:Operand} {yt ty:TypeId} {a b c:Nat} (hx:ev K x=some (.agg (yO a c).toArray)) (hy:ev K y=some (.agg (yO b c).toArray)) (ha:a<zb) (hb:b<zb) :
  Does Tryz.prog w0 gs K L (.binOp .eql 33 x y yt) ty (.bool (decide (a=b))):=by
 intro ac w hk _ o ho _;simp only[execOp,ho,hk.eval hx,hk.eval hy,Sem.run_bind,lh,Result.andThen_ok,run_eql_struct,aM ha hb,Sem.run_pure]
theorem kS {x y:Operand} {yt ty:TypeId} {a:Nat} {r:Bool} (hx:ev K x=some (zf a)) (hy:ev K y=some (.agg (over (zc 0) (0*1) (cellsOf (Value.int .u64 1))).toArray)) (ha:a<zb) (hr:decide (a=1)=r) :
  Does Tryz.prog w0 gs K L (.binOp .eql 24 x y yt) ty (.bool r):=sD hx (by rw[hy,jR]) ha yA hr
theorem aag {x y:Operand} {yt ty:TypeId} {a:Nat} {r:Bool} (hx:ev K x=some (zf a)) (hy:ev K y=some (.agg (over (zc 0) (0*1) (cellsOf (Value.int .u64 1))).toArray)) (ha:a<zb) (hr:(!decide (a=1))=r) :
  Does Tryz.prog w0 gs K L (.binOp .neq 24 x y yt) ty (.bool r):=by
 subst hr;have h:=z7 (w0:=w0) (gs:=gs) (L:=L) (yt:=yt) (ty:=ty) (hx:=hx) (hy:=(show ev K y=some (zf 1) by rw[hy,jR])) (ha:=ha) (hb:=yA);simpa using h
end
attribute [local irreducible] wd DQ DQS WO WC WX WI
def qf (p q g key C S:Nat) (H:List Nat):Bool:=gIn p q key && !decide (key=1) && ([C,S].all fun x=>zD x x q) && decide (C=gl q key (prD p [g,key] [S,(0+q - C)%q]) H)
section
variable (p q g h:Nat)
theorem iP (key C S:Nat) (H:List Nat) (hp:p<zb) (hq:q<zb) (hg:g<zb) (hk:key<zb) (hC:C<zb) (hS:S<zb) (hH:∀ b∈H,b<256) (hl:H.length=32) (hgm:vo p g=true) :
  Fn Tryz.prog 35 [yd p q g h,zf key,.agg (byC H).toArray,.agg (yO C S).toArray] Tr (Is (.bool (qf p q g key C S H))):=by
 have hI:=qZ p q g h key hk hp hq;have hX:=fun b=>acZ p q g h [C,S] (some ⟨b,0,none⟩) 2 (by intro a ha;simp only[List.mem_cons,List.not_mem_nil,or_false] at ha;rcases ha with rfl|rfl<;>assumption) (by show 2≤1099511627776;omega) hq;have hbH:(byC H).length=32:=by rw[zd,hl]
 cases e1:gIn p q key with
 | false =>
  rw[e1] at hI;rw[show qf p q g key C S H=false by unfold qf;rw[e1];rfl];refine Fn.enter Tryz.func35 rfl rfl rfl ?_;intro w hw
  repeat (first|refine Ta ?_|(refine Tm ?_;intro _)|refine WO.acall (hc:=hI) (k:=?_)|refine Tc ?_|exact Tz)
  done
 | true =>
 rw[e1] at hI;cases e2:decide (key=1) with
 | true =>
  rw[show qf p q g key C S H=false by unfold qf;rw[e1,e2];rfl];refine Fn.enter Tryz.func35 rfl rfl rfl ?_;intro w hw
  repeat (first|refine Ta ?_|(refine Tm ?_;intro _)|refine WO.acall (hc:=hI) (k:=?_)|refine WO.does (kS rfl rfl hk e2) ?_|refine Tc ?_|exact Tz)
  done
 | false =>
 cases e3:([C,S].all fun x=>zD x x q) with
 | false =>
  rw[e3] at hX;rw[show qf p q g key C S H=false by unfold qf;rw[e1,e2,e3];rfl];refine Fn.enter Tryz.func35 rfl rfl rfl ?_;intro w hw
  repeat (first|refine Ta ?_|(refine Tm ?_;intro _)|refine WO.acall (hc:=hI) (k:=?_)|refine WO.does (kS rfl rfl hk e2) ?_|(refine WO.makes (ze (cs:=zc C++zc S) rfl (by decide) rfl) ?_;intro _)|refine WO.acallR (hc:=hX _) (hR:=fun w1 hm=>RdF.seg (f:=zc) (xs:=[C,S]) (r:=[]) (Hs.sg hm)) (k:=?_)|refine Tc ?_|exact Tz)
  done
 | true =>
 rw[e3] at hX;have e4:zD C C q=true∧zD S S q=true:=by simpa using e3
 obtain⟨hq1,hCq,_⟩:=zK e4.1;have hU:=aaS p q g h 0 C zq hC hq;rw[show zD 0 C q=true by simp[zD,hq1,hCq];omega] at hU;have hBq:(0+q - C)%q<q:=Nat.mod_lt _ (by omega);rw[show qf p q g key C S H=decide (C=gl q key (prD p [g,key] [S,(0+q - C)%q]) H) by unfold qf;rw[e1,e2,e3];rfl];have h1p:1<p:=(yB hgm).1;have hPd:=fun b1 b2=>pO p q g h hp h1p [g,key] [S,(0+q - C)%q] ⟨by simp;exact⟨hg,hk⟩,by simp;exact⟨hgm,yZ e1⟩⟩ (by rintro v hv;simp only[List.mem_cons,List.not_mem_nil,or_false] at hv;rcases hv with h|h<;>rw[h]<;>first|exact hS|exact Nat.lt_trans hBq hq) rfl (by simp) (some ⟨b1,0,none⟩) (some ⟨b2,0,none⟩) 2 2 (by simp);have hRl:=Nat.lt_trans (im (zs:=[g,key]) (ws:=[S,(0+q - C)%q]) h1p) hp;generalize prD p [g,key] [S,(0+q - C)%q]=R at *;generalize (0+q - C)%q=B at *;have hCh:=fun gG gK gH=>c9 p q g h key R gG gK gH H hq (by omega) hH hl;have hcl:gl q key R H<zb:=Nat.lt_trans (nG (by omega) _ _) hq;have hSg:=aci p q g h key H hl;generalize gl q key R H=c at *;refine Fn.enter Tryz.func35 rfl rfl rfl ?_;intro w hw
 repeat (first|refine Ta ?_|(refine Tm ?_;intro _)|refine WO.acall (hc:=hI) (k:=?_)|refine WO.does (kS rfl rfl hk e2) ?_|(refine WO.makes (ze (cs:=zc C++zc S) rfl (by decide) rfl) ?_;intro _)|refine WO.acallR (hc:=hX _) (hR:=fun w1 hm=>RdF.seg (f:=zc) (xs:=[C,S]) (r:=[]) (Hs.sg hm)) (k:=?_)|refine WO.acall (hc:=hU) (k:=?_)|(refine WO.makes (ze (cs:=zc g++zc key) rfl (by decide) rfl) ?_;intro _)|(refine WO.makes (ze (cs:=zc S++zc B) rfl (by decide) rfl) ?_;intro _)|refine WO.acallR (hc:=hPd _ _) (hR:=fun w1 hm=>⟨RdF.seg (f:=zc) (xs:=[g,key]) (r:=[]) (Hs.sg hm),RdF.seg (f:=zc) (xs:=[S,B]) (r:=[]) (Hs.sg hm)⟩) (k:=?_)|refine Tc ?_|exact Tz)
 refine WC.adraw 16 (k:=?_)
 iterate 6 (first|refine Da ?_|refine Dc ?_)
 refine DQ.does (fun s _=>zz (vs:=byC H) (hc:=yl hbH) (hl:=hbH)) Dp.const ?_
 refine DQ.callsE (fs:=fun _=>[]) (cs:=fun _=>[]) (R:=fun _=>Tr) (vf:=fun _ x=>.func (.func 130) #[] #[pt (x 0),pt (x 1),pt (x 2)]) (Nf:=fun _ x=>[⟨x 2,45,byC H⟩,⟨x 1,24,zc key⟩,⟨x 0,26,zR p q g h⟩]) (S:=fun _ _=>True) (fun _=>[]) (fun _=>.nil)
  (fun _=>⟨fun _=>0,trivial⟩) (fun _ _=>hSg) (fun _=>rfl) (fun _=>rfl) (fun _=>rfl) (fun _ _ w hm=>trivial) Dp.const Dp.const Dp.const ?_
 try dsimp only[List.map_cons,List.map_nil,List.cons_append,List.nil_append]
 iterate 1 (first|refine Da ?_|refine Dc ?_)
 refine DQ.callsE (fs:=fun _=>[]) (cs:=fun s=>[pt (s 7 0),pt (s 7 1),pt (s 7 2)]) (R:=fun s w=>Seg w (s 7 0) 0 (zR p q g h)∧Seg w (s 7 1) 0 (zc key)∧Seg w (s 7 2) 0 (byC H)) (vf:=fun _ _=>zf c) (Nf:=fun _ _=>[]) (S:=fun _ _=>True) (fun s=>[⟨s 7 2,45,byC H⟩,⟨s 7 1,24,zc key⟩,⟨s 7 0,26,zR p q g h⟩])
  (fun s=>.cons 7 (by repeat (first|exact .head _|apply List.Mem.tail)) (by decide +kernel) (.cons 7 (by repeat (first|exact .head _|apply List.Mem.tail)) (by decide +kernel) (.cons 7 (by repeat (first|exact .head _|apply List.Mem.tail)) (by decide +kernel) .nil)))
  (fun _=>⟨fun _=>0,trivial⟩) (fun s _=>(hCh (s 7 0) (s 7 1) (s 7 2)).ex) (fun _=>rfl) (fun _=>rfl) (fun _=>rfl) (fun s _ w hm=>⟨Hs.seg (.there (.there .here)) hm,Hs.seg (.there .here) hm,Hs.seg .here hm⟩) Dp.const Dp.const Dp.const ?_
 try dsimp only[List.map_cons,List.map_nil,List.cons_append,List.nil_append]
 iterate 3 (first|refine Da ?_|refine Dc ?_)
 refine DQ.does (fun s _=>bL (a:=C) (b:=c) (c:=S) rfl rfl hC hcl) Dp.const ?_
 iterate 2 (first|refine Da ?_|refine Dc ?_)
 refine DQ.anil (k:=?_);intro sx _
 repeat (first|refine Tw ?_|(refine Tm ?_;intro _)|exact Tz)
 done
end
end Sx
end
section
open Go Go.RowKit Go.BigFrame
namespace Sx
theorem aeC {p a b x y:Nat}:prD p [a,b] [x,y]=a ^ x%p*(b ^ y%p)%p:=by
 unfold prD;simp[Nat.one_mul]
attribute [local irreducible] wd DQ DQS WO WC WX WI
section
variable (p q g h:Nat)
theorem acp (key:Nat) (hp:p<zb) (hq:q<zb) (hk:key<zb):Fn Tryz.prog 89 [yd p q g h,zf key] Tr (Is (.bool (gIn p q key && !decide (key=1)))):=by
 have hI:=qa p q g h key hk hp hq;cases e1:gIn p q key with
 | false =>
  rw[e1] at hI;rw[Bool.false_and];refine Fn.enter Tryz.func89 rfl rfl rfl ?_;intro w hw
  repeat (first|refine Ta ?_|(refine Tm ?_;intro _)|refine WO.acall (hc:=hI) (k:=?_)|refine Tc ?_|exact Tz)
  done
 | true =>
 rw[e1] at hI;rw[Bool.true_and];refine Fn.enter Tryz.func89 rfl rfl rfl ?_;intro w hw
 repeat (first|refine Ta ?_|(refine Tm ?_;intro _)|refine WO.acall (hc:=hI) (k:=?_)|refine WO.does (aag rfl rfl hk rfl) ?_|refine Tc ?_|exact Tz)
 done
theorem f9 (key C S:Nat) (H:List Nat) (hp:p<zb) (hq:q<zb) (hg:g<zb) (hk:key<zb) (hC:C<zb) (hS:S<zb) (hH:∀ b∈H,b<256) (hl:H.length=32) (hgm:vo p g=true) :
  Fn Tryz.prog 41 [yd p q g h,zf key,.agg (byC H).toArray,.agg (yO C S).toArray] Tr (Is (.bool (qf p q g key C S H))):=by
 have hM:=qs p q g h g hg hp;rw[hgm] at hM;have hK:=acp p q g h key hp hq hk;have hX1:=rM p q g h C hC hq;have hX2:=rM p q g h S hS hq;have hbH:(byC H).length=32:=by rw[zd,hl]
 cases e1:(gIn p q key && !decide (key=1)) with
 | false =>
  rw[e1] at hK;rw[show qf p q g key C S H=false by unfold qf;rw[e1];rfl];refine Fn.enter Tryz.func41 rfl rfl rfl ?_;intro w hw
  repeat (first|refine Ta ?_|(refine Tm ?_;intro _)|refine WO.acall (hc:=hM) (k:=?_)|refine WO.acall (hc:=hK) (k:=?_)|refine Tc ?_|exact Tz)
  done
 | true =>
 rw[e1] at hK;cases e2:zD C C q with
 | false =>
  rw[e2] at hX1;rw[show qf p q g key C S H=false by unfold qf;simp[e2]];refine Fn.enter Tryz.func41 rfl rfl rfl ?_;intro w hw
  repeat (first|refine Ta ?_|(refine Tm ?_;intro _)|refine WO.acall (hc:=hM) (k:=?_)|refine WO.acall (hc:=hK) (k:=?_)|refine WO.acall (hc:=hX1) (k:=?_)|refine Tc ?_|exact Tz)
  done
 | true =>
 rw[e2] at hX1;cases e3:zD S S q with
 | false =>
  rw[e3] at hX2;rw[show qf p q g key C S H=false by unfold qf;simp[e3]];refine Fn.enter Tryz.func41 rfl rfl rfl ?_;intro w hw
  repeat (first|refine Ta ?_|(refine Tm ?_;intro _)|refine WO.acall (hc:=hM) (k:=?_)|refine WO.acall (hc:=hK) (k:=?_)|refine WO.acall (hc:=hX1) (k:=?_)|refine WO.acall (hc:=hX2) (k:=?_)|refine Tc ?_|exact Tz)
  done
 | true =>
 rw[e3] at hX2;obtain⟨hq1,hCq,_⟩:=zK e2;rw[show qf p q g key C S H=decide (C=gl q key (prD p [g,key] [S,(0+q - C)%q]) H) by unfold qf;rw[e1];simp[e2,e3]];rw[Bool.and_eq_true] at e1;obtain⟨e1,_⟩:=e1;have h1p:1<p:=(yB hgm).1;have hkm:=yZ e1;have hkq:key ^ q%p=1:=by unfold gIn at e1;simpa [hkm] using e1
 have hE1:=ln p q g h g S hg hS hp;rw[hgm] at hE1;simp only[rE,okV,okE,if_true,if_pos] at hE1;have hU1:g ^ S%p<p:=Nat.mod_lt _ (by omega);have hR:∀ n,key ^ n%p=key ^ ((0+q - C)%q)%p→prD p [g,key] [S,(0+q - C)%q]=g ^ S%p*(key ^ n%p)%p:=fun n hn=>by rw[aeC,hn]
 have hRl:=Nat.lt_trans (im (zs:=[g,key]) (ws:=[S,(0+q - C)%q]) h1p) hp;have hCh:=bs p q g h key (prD p [g,key] [S,(0+q - C)%q]) H hq (by omega) hH hl;have hcl:gl q key (prD p [g,key] [S,(0+q - C)%q]) H<zb:=Nat.lt_trans (nG (by omega) _ _) hq;generalize gl q key (prD p [g,key] [S,(0+q - C)%q]) H=c at *;generalize prD p [g,key] [S,(0+q - C)%q]=R at *
 by_cases hC0:C=0
 ·subst hC0;have hE2:=ln p q g h key q hk hq hp;rw[hkm] at hE2;simp only[rE,okV,okE,if_true,if_pos] at hE2;have hRR:=hR q (by rw[hkq,show (0+q - 0)%q=0 by simp];simp[Nat.mod_eq_of_lt h1p]);have hU2:key ^ q%p<p:=Nat.mod_lt _ (by omega);clear hR;generalize key ^ q%p=u at *;generalize g ^ S%p=v at *;obtain⟨eM,hMu⟩:=nZ p q g h v u h1p hU1 hU2 hp;rw[← hRR] at hMu;clear hRR;refine Fn.enter Tryz.func41 rfl rfl rfl ?_;intro w hw
  repeat (first|refine Ta ?_|(refine Tm ?_;intro _)|refine WO.acall (hc:=hM) (k:=?_)|refine WO.acall (hc:=hK) (k:=?_)|refine WO.acall (hc:=hX1) (k:=?_)|refine WO.acall (hc:=hX2) (k:=?_)|refine WO.acall (hc:=hE1) (k:=?_)|refine WC.condF (by rfl) ?_|refine WO.acall (hc:=hE2) (k:=?_)|refine WO.acall (hc:=hMu) (k:=?_)|refine Tc ?_|exact Tz)
  refine WC.adraw 9 (k:=?_)
  iterate 3 (first|refine Da ?_|refine Dc ?_)
  refine DQ.does (fun s _=>zz (vs:=byC H) (hc:=yl hbH) (hl:=hbH)) Dp.const ?_;refine DQ.acallM (hc:=hCh) (hR:=fun _ _=>trivial) (k:=?_)
  iterate 2 (first|refine Da ?_|refine Dc ?_)
  refine DQ.does (fun s _=>sD (a:=c) (b:=0) (r:=decide (0=c)) rfl rfl hcl zq (decide_eq_decide.2 eq_comm)) Dp.const ?_
  iterate 1 (first|refine Da ?_|refine Dc ?_)
  refine DQ.anil (k:=?_);intro sx _
  repeat (first|refine Tw ?_|(refine Tm ?_;intro _)|exact Tz)
 ·have hU:=aaI p q g h 0 C zq hC hq;rw[show zD 0 C q=true by simp[zD,hq1,hCq];omega] at hU;simp only[rE,okV,okE,if_true,if_pos] at hU;have hBq:(0+q - C)%q<q:=Nat.mod_lt _ (by omega);have hRR:=hR _ rfl;clear hR;generalize (0+q - C)%q=B at *;have hE2:=ln p q g h key B hk (Nat.lt_trans hBq hq) hp;rw[hkm] at hE2;simp only[rE,okV,okE,if_true,if_pos] at hE2;have hU2:key ^ B%p<p:=Nat.mod_lt _ (by omega);generalize key ^ B%p=u at *;generalize g ^ S%p=v at *;obtain⟨eM,hMu⟩:=nZ p q g h v u h1p hU1 hU2 hp;rw[← hRR] at hMu;clear hRR;refine Fn.enter Tryz.func41 rfl rfl rfl ?_;intro w hw
  repeat (first|refine Ta ?_|(refine Tm ?_;intro _)|refine WO.acall (hc:=hM) (k:=?_)|refine WO.acall (hc:=hK) (k:=?_)|refine WO.acall (hc:=hX1) (k:=?_)|refine WO.acall (hc:=hX2) (k:=?_)|refine WO.acall (hc:=hE1) (k:=?_)|refine Tc ?_|exact Tz)
  refine WC.condT (by show some (Value.bool (decide (C≠0)))=_;rw[decide_eq_true hC0]) ?_
  repeat (first|refine Ta ?_|(refine Tm ?_;intro _)|refine WO.acall (hc:=hU) (k:=?_)|refine WO.acall (hc:=hE2) (k:=?_)|refine WO.acall (hc:=hMu) (k:=?_)|refine Tc ?_|exact Tz)
  refine WC.adraw 9 (k:=?_)
  iterate 3 (first|refine Da ?_|refine Dc ?_)
  refine DQ.does (fun s _=>zz (vs:=byC H) (hc:=yl hbH) (hl:=hbH)) Dp.const ?_;refine DQ.acallM (hc:=hCh) (hR:=fun _ _=>trivial) (k:=?_)
  iterate 2 (first|refine Da ?_|refine Dc ?_)
  refine DQ.does (fun s _=>sD (a:=c) (b:=C) (r:=decide (C=c)) rfl rfl hcl hC (decide_eq_decide.2 eq_comm)) Dp.const ?_
  iterate 1 (first|refine Da ?_|refine Dc ?_)
  refine DQ.anil (k:=?_);intro sx _
  repeat (first|refine Tw ?_|(refine Tm ?_;intro _)|exact Tz)
end
end Sx
end
end Go.Proofs.YtbbppkkhidkjpaaGreatDoor
