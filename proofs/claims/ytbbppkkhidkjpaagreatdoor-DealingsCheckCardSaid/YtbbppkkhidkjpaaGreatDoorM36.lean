/- Part 36 of the proof. -/
import Derived.Test.YtbbppkkhidkjpaaGreatDoorM33
import Derived.Test.YtbbppkkhidkjpaaGreatDoorM35
set_option linter.unusedSimpArgs false
set_option linter.unusedVariables false
set_option maxHeartbeats 8000000
namespace Go.Proofs.YtbbppkkhidkjpaaGreatDoor
section
open Go Go.RowKit Go.BigFrame
namespace Sx
attribute [local irreducible] DQ DQS WC WO WX wd
section
variable (p q g h:Nat) (s:ByteArray)
theorem gZ (base a y b c S:Nat) (hp:p<zb) (hq:q<zb) (hbs:base<zb) (ha:a<zb) (hy:y<zb) (hb:b<zb) (hc:c<zb) (hS:S<zb)
  (hB:(gIn p q base && gIn p q a && gIn p q y && gIn p q b && zD c c q && zD S S q)=false) :
  Fn Tryz.prog 40 [yd p q g h,.string s,zf base,zf a,zf y,zf b,pfV c S] Tr (Is (.bool false)):=by
 have h1:=qa p q g h base hbs hp hq;have h2:=qa p q g h a ha hp hq;have h3:=qa p q g h y hy hp hq;have h4:=qa p q g h b hb hp hq;have h5:=um p q g h c hc hq;have h6:=um p q g h S hS hq;cases e1:gIn p q base with
 | false =>
  rw[e1] at h1;clear hB h2 h3 h4 h5 h6;refine Fn.enter Tryz.func40 rfl rfl rfl ?_;intro w hw
  repeat (first|refine Ta ?_|(refine Tm ?_;intro _)|refine WO.acall (hc:=h1) (k:=?_)|refine Tc ?_|exact Tz)
 | true =>
 rw[e1] at h1 hB;cases e2:gIn p q a with
 | false =>
  rw[e2] at h2;clear hB h3 h4 h5 h6;refine Fn.enter Tryz.func40 rfl rfl rfl ?_;intro w hw
  repeat (first|refine Ta ?_|(refine Tm ?_;intro _)|refine WO.acall (hc:=h1) (k:=?_)|refine WO.acall (hc:=h2) (k:=?_)|refine Tc ?_|exact Tz)
 | true =>
 rw[e2] at h2 hB;cases e3:gIn p q y with
 | false =>
  rw[e3] at h3;clear hB h4 h5 h6;refine Fn.enter Tryz.func40 rfl rfl rfl ?_;intro w hw
  repeat (first|refine Ta ?_|(refine Tm ?_;intro _)|refine WO.acall (hc:=h1) (k:=?_)|refine WO.acall (hc:=h2) (k:=?_)|refine WO.acall (hc:=h3) (k:=?_)|refine Tc ?_|exact Tz)
 | true =>
 rw[e3] at h3 hB;cases e4:gIn p q b with
 | false =>
  rw[e4] at h4;clear hB h5 h6;refine Fn.enter Tryz.func40 rfl rfl rfl ?_;intro w hw
  repeat (first|refine Ta ?_|(refine Tm ?_;intro _)|refine WO.acall (hc:=h1) (k:=?_)|refine WO.acall (hc:=h2) (k:=?_)|refine WO.acall (hc:=h3) (k:=?_)|refine WO.acall (hc:=h4) (k:=?_)|refine Tc ?_|exact Tz)
 | true =>
 rw[e4] at h4 hB;cases e5:zD c c q with
 | false =>
  rw[e5] at h5;clear hB h6;refine Fn.enter Tryz.func40 rfl rfl rfl ?_;intro w hw
  repeat (first|refine Ta ?_|(refine Tm ?_;intro _)|refine WO.acall (hc:=h1) (k:=?_)|refine WO.acall (hc:=h2) (k:=?_)|refine WO.acall (hc:=h3) (k:=?_)|refine WO.acall (hc:=h4) (k:=?_)|refine WO.acall (hc:=h5) (k:=?_)|refine Tc ?_|exact Tz)
 | true =>
 rw[e5] at h5 hB;have e6:zD S S q=false:=by simpa using hB
 rw[e6] at h6;clear hB;refine Fn.enter Tryz.func40 rfl rfl rfl ?_;intro w hw
 repeat (first|refine Ta ?_|(refine Tm ?_;intro _)|refine WO.acall (hc:=h1) (k:=?_)|refine WO.acall (hc:=h2) (k:=?_)|refine WO.acall (hc:=h3) (k:=?_)|refine WO.acall (hc:=h4) (k:=?_)|refine WO.acall (hc:=h5) (k:=?_)|refine WO.acall (hc:=h6) (k:=?_)|refine Tc ?_|exact Tz)
end
theorem abJ {p u v:Nat} (h:1<p) (hu:u<p) (hv:v<p):okV (vo p u && vo p v) (u*v%p)=u*v%p:=by
 unfold okV vo
 by_cases h1:u=0
 ·subst h1;simp
 ·by_cases h2:v=0
  ·subst h2;simp
  ·simp[h,h1,h2,hu,hv]
section
variable (p q g h:Nat)
theorem nZ (u v:Nat) (h1:1<p) (hu:u<p) (hv:v<p) (hp:p<zb):∃ e:Int,Fn Tryz.prog 86 [yd p q g h,zf u,zf v] Tr (Is (.tuple #[zf (u*v%p),.int .i64 e])) :=
 ⟨_,by rw[← abJ h1 hu hv];exact adF p q g h u v (by omega) (by omega) hp⟩
variable (s:ByteArray)
theorem iT (base a y b c S:Nat) (hp:p<zb) (hq:q<zb) (hbs:base<zb) (ha:a<zb) (hy:y<zb) (hb:b<zb) (hc:c<zb) (hS:S<zb) (hs:s.size≤68719476736)
  (hB:(gIn p q base && gIn p q a && gIn p q y && gIn p q b && zD c c q && zD S S q)=true) :
  Fn Tryz.prog 40 [yd p q g h,.string s,zf base,zf a,zf y,zf b,pfV c S] Tr (Is (.bool (decide (ckC p q (zN s) base a y b c S=c)))):=by
 have h1:=qa p q g h base hbs hp hq;have h2:=qa p q g h a ha hp hq;have h3:=qa p q g h y hy hp hq;have h4:=qa p q g h b hb hp hq;have h5:=um p q g h c hc hq;have h6:=um p q g h S hS hq;simp only[Bool.and_eq_true] at hB;obtain⟨⟨⟨⟨⟨e1,e2⟩,e3⟩,e4⟩,e5⟩,e6⟩:=hB;rw[e1] at h1;rw[e2] at h2;rw[e3] at h3;rw[e4] at h4;rw[e5] at h5;rw[e6] at h6;obtain⟨hq1,hcq,_⟩:=zK e5;have hp1:=(yB (yZ e1)).1;have hbk:ym q c<q:=Nat.mod_lt _ (by omega);have hU:=aaI p q g h 0 c zq hc hq;rw[show zD 0 c q=true by simp[zD,hq1,hcq];omega,show (0+q - c)%q=ym q c from rfl] at hU;have p1:=sk p q g h base S hbs hS hp;have p2:=sk p q g h a (ym q c) ha (by omega) hp;have p3:=sk p q g h y S hy hS hp;have p4:=sk p q g h b (ym q c) hb (by omega) hp;rw[yZ e1] at p1;rw[yZ e2] at p2;rw[yZ e3] at p3;rw[yZ e4] at p4;have hm0:∀ x,x%p<p:=fun x=>Nat.mod_lt _ (by omega);obtain⟨E1,m1⟩:=nZ p q g h (base ^ S%p) (a ^ ym q c%p) hp1 (hm0 _) (hm0 _) hp;obtain⟨E2,m2⟩:=nZ p q g h (y ^ S%p) (b ^ ym q c%p) hp1 (hm0 _) (hm0 _) hp;have hC:=nI p q g h s base a y b (base ^ S%p*(a ^ ym q c%p)%p) (y ^ S%p*(b ^ ym q c%p)%p) hq (by omega) (by omega);have hcl:ckC p q (zN s) base a y b c S<zb:=Nat.lt_trans (nG (by omega) _ _) hq;rw[show kY q (zN s) [be 32 base,be 32 a,be 32 y,be 32 b,be 32 (base ^ S%p*(a ^ ym q c%p)%p),be 32 (y ^ S%p*(b ^ ym q c%p)%p)]=ckC p q (zN s) base a y b c S from rfl] at hC;generalize ckC p q (zN s) base a y b c S=R at *;generalize base ^ S%p*(a ^ ym q c%p)%p=P1 at *;generalize y ^ S%p*(b ^ ym q c%p)%p=P2 at *;generalize base ^ S%p=U1 at *;generalize a ^ ym q c%p=U2 at *;generalize y ^ S%p=U3 at *;generalize b ^ ym q c%p=U4 at *;generalize ym q c=B at *;clear e1 e2 e3 e4 e5 e6 hm0;refine Fn.enter Tryz.func40 rfl rfl rfl ?_;intro w hw
 repeat (first|refine Ta ?_|(refine Tm ?_;intro _)|refine WO.acall (hc:=h1) (k:=?_)|refine WO.acall (hc:=h2) (k:=?_)|refine WO.acall (hc:=h3) (k:=?_)|refine WO.acall (hc:=h4) (k:=?_)|refine WO.acall (hc:=h5) (k:=?_)|refine WO.acall (hc:=h6) (k:=?_)|refine WO.acall (hc:=hU) (k:=?_)|refine Tc ?_|exact Tz)
 refine WC.adrawF [13] 15 (k:=?_)
 repeat (first|refine Da ?_|refine DQ.acall (hc:=p1) (k:=?_)|refine DQ.acall (hc:=p2) (k:=?_)|refine DQ.acall (hc:=m1) (k:=?_)|refine Df ?_)
 refine DQ.anil (k:=?_);intro sx _
 repeat (first|refine Tw ?_|(refine Tm ?_;intro _)|exact Tz)
 refine WC.adrawF [13] 15 (k:=?_)
 repeat (first|refine Da ?_|refine DQ.acall (hc:=p3) (k:=?_)|refine DQ.acall (hc:=p4) (k:=?_)|refine DQ.acall (hc:=m2) (k:=?_)|refine Df ?_)
 refine DQ.anil (k:=?_);intro sx _
 repeat (first|refine Tw ?_|(refine Tm ?_;intro _)|exact Tz)
 refine WC.adraw 14 (k:=?_)
 repeat (first|refine Da ?_|refine DQ.acall (hc:=hC) (k:=?_)|refine DQ.does (fun s _=>zZ) Dp.const ?_|refine Dc ?_)
 refine DQ.anil (k:=?_);intro sx _
 repeat (first|refine Tw ?_|(refine Tm ?_;intro _)|exact Tz)
 done
theorem eC (base a y b c S:Nat) (hp:p<zb) (hq:q<zb) (hbs:base<zb) (ha:a<zb) (hy:y<zb) (hb:b<zb) (hc:c<zb) (hS:S<zb) (hs:s.size≤68719476736) :
  Fn Tryz.prog 40 [yd p q g h,.string s,zf base,zf a,zf y,zf b,pfV c S] Tr (Is (.bool (ckB p q (zN s) base a y b c S))):=by
 unfold ckB;cases hB:(gIn p q base && gIn p q a && gIn p q y && gIn p q b && zD c c q && zD S S q) with
 | false=>rw[Bool.false_and];exact gZ p q g h s base a y b c S hp hq hbs ha hy hb hc hS hB
 | true=>rw[Bool.true_and];exact iT p q g h s base a y b c S hp hq hbs ha hy hb hc hS hs hB
end
end Sx
end
end Go.Proofs.YtbbppkkhidkjpaaGreatDoor
