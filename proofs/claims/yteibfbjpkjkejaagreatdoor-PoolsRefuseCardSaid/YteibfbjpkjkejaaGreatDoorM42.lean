/- Part 42 of the proof. -/
import Derived.Test.YteibfbjpkjkejaaGreatDoorM41
set_option linter.unusedSimpArgs false
set_option linter.unusedVariables false
set_option maxHeartbeats 8000000
namespace Go.Proofs.YteibfbjpkjkejaaGreatDoor
section
open Go Go.RowKit Go.BigFrame
namespace Sx
attribute [local irreducible] DQ DQS WC WO WX wd
section
variable (p q g h:Nat)
theorem fo (key:Nat) (H:List Nat) (hl:H.length=32) :
  Fn Tryz.prog 100 [yk p q g h,zi key,.agg (byC H).toArray] Tr
   (Ex (fun x=>.func (.func 132) #[] #[pt (x 0),pt (x 1),pt (x 2)]) (fun x=>[⟨x 2,60,byC H⟩,⟨x 1,24,zb key⟩,⟨x 0,26,zP p q g h⟩]) (fun _=>True)):=by
 have hbH:(byC H).length=32:=by rw[zh,hl]
 refine Fn.enter Tryz.func100 rfl rfl rfl ?_;intro w hw
 repeat (first|refine Ta ?_|(refine Tm ?_;intro _)|refine WO.does (zX rfl rfl) ?_|refine Tc ?_|exact Tz)
 rename_i g3 g4 g5;exact WX.ret1 rfl (by exact zr rfl) [⟨g5,60,byC H⟩,⟨g4,24,zb key⟩,⟨g3,26,zP p q g h⟩] (by repeat (first|exact Lle.nil|refine Lle.c ?_)) ⟨fun i=>if i=0 then g3 else if i=1 then g4 else g5,rfl,rfl,trivial⟩
theorem ack (x d c S:Nat) (H:List Nat) (hp:p<zd) (hq:q<zd) (hg:g<zd) (hx:x<zd) (hd:d<zd) (hl:H.length=32) (hB:sgB p q g x d=false) :
  Fn Tryz.prog 50 [yk p q g h,zi x,.agg (byC H).toArray,zi d] Tr (Is (prV false c S)):=by
 have hE:=ub p q g h g x hg hx hp;have hX:=fun b=>eS p q g h [x,d] (some ⟨b,0,none⟩) 2 (by intro a ha;simp only[List.mem_cons,List.not_mem_nil,or_false] at ha;rcases ha with rfl|rfl<;>assumption) (by show 2≤1099511627776;omega) hq;have hbH:(byC H).length=32:=by rw[zh,hl]
 unfold sgB at hB;cases e1:yw p g with
 | false =>
  rw[e1] at hE;refine Fn.enter Tryz.func50 rfl rfl rfl ?_;intro w hw
  repeat (first|refine Ta ?_|(refine Tm ?_;intro _)|refine WO.acall (hc:=hE) (k:=?_)|refine WO.does (ve rfl rfl (by decide)) ?_|refine Tc ?_|exact Tz)
  done
 | true =>
 rw[e1] at hE hB;generalize g ^ x%p=y at *;cases e2:decide (x=0) with
 | true =>
  refine Fn.enter Tryz.func50 rfl rfl rfl ?_;intro w hw
  repeat (first|refine Ta ?_|(refine Tm ?_;intro _)|refine WO.acall (hc:=hE) (k:=?_)|refine WO.does (zN rfl rfl rfl) ?_|refine WO.does (zx rfl rfl hx zA e2) ?_|refine Tc ?_|exact Tz)
  done
 | false =>
 cases e3:decide (d=0) with
 | true =>
  refine Fn.enter Tryz.func50 rfl rfl rfl ?_;intro w hw
  repeat (first|refine Ta ?_|(refine Tm ?_;intro _)|refine WO.acall (hc:=hE) (k:=?_)|refine WO.does (zN rfl rfl rfl) ?_|refine WO.does (zx rfl rfl hx zA e2) ?_|refine WO.does (zx rfl rfl hd zA e3) ?_|refine Tc ?_|exact Tz)
  done
 | false =>
 have e4:([x,d].all fun x=>zJ x x q)=false:=by
  simp at e2 e3;simpa [e2,e3] using hB
 rw[e4] at hX;refine Fn.enter Tryz.func50 rfl rfl rfl ?_;intro w hw
 repeat (first|refine Ta ?_|(refine Tm ?_;intro _)|refine WO.acall (hc:=hE) (k:=?_)|refine WO.does (zN rfl rfl rfl) ?_|refine WO.does (zx rfl rfl hx zA e2) ?_|refine WO.does (zx rfl rfl hd zA e3) ?_|(refine WO.makes (ze (cs:=zb x++zb d) rfl (by decide) rfl) ?_;intro _)|refine WO.acallR (hc:=hX _) (hR:=fun w1 hm=>RdF.seg (f:=zb) (xs:=[x,d]) (r:=[]) (Hs.sg hm)) (k:=?_)|refine Tc ?_|exact Tz)
 done
theorem aco (x d c:Nat) (H:List Nat) (hp:p<zd) (hq:q<zd) (hg:g<zd) (hx:x<zd) (hd:d<zd) (hH:∀ b∈H,b<256) (hl:H.length=32) (hB:sgB p q g x d=true) (hc:sgC p q g x d H=c) :
  Fn Tryz.prog 50 [yk p q g h,zi x,.agg (byC H).toArray,zi d] Tr (Is (prV true c ((d+x*c%q)%q))):=by
 have hE1:=ub p q g h g x hg hx hp;have hE2:=ub p q g h g d hg hd hp;have hX:=fun b=>eS p q g h [x,d] (some ⟨b,0,none⟩) 2 (by intro a ha;simp only[List.mem_cons,List.not_mem_nil,or_false] at ha;rcases ha with rfl|rfl<;>assumption) (by show 2≤1099511627776;omega) hq;have hbH:(byC H).length=32:=by rw[zh,hl]
 unfold sgB at hB;simp only[Bool.and_eq_true,decide_eq_true_eq] at hB;obtain⟨⟨⟨⟨e1,e2⟩,e3⟩,e4⟩,e5⟩:=hB;rw[e1] at hE1 hE2;have d4:decide (x=0)=false:=decide_eq_false e4;have d5:decide (d=0)=false:=decide_eq_false e5;rw[show ([x,d].all fun x=>zJ x x q)=true by simp[e2,e3]] at hX;have hq1:=(zL e2).1;have hxq:=(zL e2).2.1;have hdq:=(zL e3).2.1;have hcl:c<q:=by rw[← hc];exact vW (by omega) _ _
 have hCh:=fun gG gK gH=>kG p q g h (g ^ x%p) (g ^ d%p) gG gK gH H hq (by omega) hH hl;rw[show fg q (g ^ x%p) (g ^ d%p) H=c from hc] at hCh;have hM:=kN p q g h x c hx (Nat.lt_trans hcl hq) hq;rw[show zJ x c q=true by simp[zJ,hq1,hxq,hcl]] at hM;have hml:x*c%q<q:=Nat.mod_lt _ (by omega);have hA:=nk p q g h d (x*c%q) hd (Nat.lt_trans hml hq) hq;rw[show zJ d (x*c%q) q=true by simp[zJ,hq1,hdq,hml]] at hA;have hS:=fo p q g h (g ^ x%p) H hl;clear hc;generalize (d+x*c%q)%q=S at *;generalize x*c%q=M at *;generalize g ^ x%p=P1 at *;generalize g ^ d%p=P2 at *;refine Fn.enter Tryz.func50 rfl rfl rfl ?_;intro w hw
 repeat (first|refine Ta ?_|(refine Tm ?_;intro _)|refine WO.acall (hc:=hE1) (k:=?_)|refine WO.acall (hc:=hE2) (k:=?_)|refine WO.does (zN rfl rfl rfl) ?_|refine WO.does (zx rfl rfl hx zA d4) ?_|refine WO.does (zx rfl rfl hd zA d5) ?_|(refine WO.makes (ze (cs:=zb x++zb d) rfl (by decide) rfl) ?_;intro _)|refine WO.acallR (hc:=hX _) (hR:=fun w1 hm=>RdF.seg (f:=zb) (xs:=[x,d]) (r:=[]) (Hs.sg hm)) (k:=?_)|refine Tc ?_|exact Tz)
 refine WC.adraw 7 (k:=?_)
 iterate 2 (refine DQ.auto (k:=?_))
 refine DQ.does (fun s _=>zE (vs:=byC H) (hc:=zK hbH) (hl:=hbH)) Dp.const ?_
 refine DQ.callsE (fs:=fun _=>[]) (cs:=fun _=>[]) (R:=fun _=>Tr) (vf:=fun _ x=>.func (.func 132) #[] #[pt (x 0),pt (x 1),pt (x 2)]) (Nf:=fun _ x=>[⟨x 2,60,byC H⟩,⟨x 1,24,zb P1⟩,⟨x 0,26,zP p q g h⟩]) (S:=fun _ _=>True) (fun _=>[]) (fun _=>.nil)
  (fun _=>⟨fun _=>0,trivial⟩) (fun _ _=>hS) (fun _=>rfl) (fun _=>rfl) (fun _=>rfl) (fun _ _ w hm=>trivial) Dp.const Dp.const Dp.const ?_
 try dsimp only[List.map_cons,List.map_nil,List.cons_append,List.nil_append]
 refine DQ.auto (k:=?_)
 refine DQ.callsE (fs:=fun _=>[]) (cs:=fun s=>[pt (s 3 0),pt (s 3 1),pt (s 3 2)]) (R:=fun s w=>Seg w (s 3 0) 0 (zP p q g h)∧Seg w (s 3 1) 0 (zb P1)∧Seg w (s 3 2) 0 (byC H)) (vf:=fun _ _=>zi c) (Nf:=fun _ _=>[]) (S:=fun _ _=>True) (fun s=>[⟨s 3 2,60,byC H⟩,⟨s 3 1,24,zb P1⟩,⟨s 3 0,26,zP p q g h⟩])
  (fun s=>.cons 3 (by repeat (first|exact .head _|apply List.Mem.tail)) (by decide +kernel) (.cons 3 (by repeat (first|exact .head _|apply List.Mem.tail)) (by decide +kernel) (.cons 3 (by repeat (first|exact .head _|apply List.Mem.tail)) (by decide +kernel) .nil)))
  (fun _=>⟨fun _=>0,trivial⟩) (fun s _=>(hCh (s 3 0) (s 3 1) (s 3 2)).ex) (fun _=>rfl) (fun _=>rfl) (fun _=>rfl) (fun s _ w hm=>⟨Hs.seg (.there (.there .here)) hm,Hs.seg (.there .here) hm,Hs.seg .here hm⟩) Dp.const Dp.const Dp.const ?_
 try dsimp only[List.map_cons,List.map_nil,List.cons_append,List.nil_append]
 refine DQ.autoM (k:=?_);refine DQ.anil (k:=?_);intro sx _;generalize sx 6 0=gC
 repeat (first|refine Ta ?_|(refine Tm ?_;intro _)|refine WO.acall (hc:=hM) (k:=?_)|refine WO.acall (hc:=hA) (k:=?_)|refine Tc ?_|exact Tz)
 done
theorem acJ (x d:Nat) (H:List Nat) (hp:p<zd) (hq:q<zd) (hg:g<zd) (hx:x<zd) (hd:d<zd) (hH:∀ b∈H,b<256) (hl:H.length=32) :
  Fn Tryz.prog 50 [yk p q g h,zi x,.agg (byC H).toArray,zi d] Tr (Is (prV (sgB p q g x d) (sgC p q g x d H) ((d+x*sgC p q g x d H%q)%q))):=by
 generalize hc:sgC p q g x d H=c;cases hB:sgB p q g x d with
 | false=>exact ack p q g h x d c _ H hp hq hg hx hd hl hB
 | true=>exact aco p q g h x d c H hp hq hg hx hd hH hl hB hc
end
def pwL {p:Nat}:(l:List (Nat × Nat))→(∀ x∈l,x.1<zd∧x.2<zd∧yw p x.1=true)→List (PwT p)
 | [],_=>[]
 | x::r,h=>⟨x,h x (List.mem_cons_self ..)⟩::pwL r (fun y hy=>h y (List.mem_cons_of_mem _ hy))
theorem oq {p:Nat}:∀ (l:List (Nat × Nat)) (h:∀ x∈l,x.1<zd∧x.2<zd∧yw p x.1=true),(pwL l h).map (fun x=>x.1)=l
 | [],_=>rfl
 | x::r,h=>by rw[pwL,List.map_cons,oq r]
def prD (p:Nat) (zs ws:List Nat):Nat:=(zs.zip ws).foldl (fun r x=>r*(x.1 ^ x.2%p)%p) 1
theorem iX {p:Nat} (zs ws:List Nat) (h):v7 p (pwL (zs.zip ws) h)=prD p zs ws:=by
 unfold v7 prD;rw[← List.foldl_map (f:=fun x:PwT p=>x.1) (g:=fun r x=>r*(x.1 ^ x.2%p)%p),oq]
theorem aak {p:Nat} {zs ws:List Nat} (h1:1<p):prD p zs ws<p:=by
 unfold prD
 rcases List.eq_nil_or_concat (zs.zip ws) with e|⟨l,x,e⟩
 ·rw[e];exact h1
 ·rw[e,List.concat_eq_append,List.foldl_append];exact Nat.mod_lt _ (by omega)
theorem acZ {p:Nat} (l:List (Nat × Nat)) (h):(pwL (p:=p) l h).length=l.length:=by
 have:=congrArg List.length (oq (p:=p) l h);rwa [List.length_map] at this
structure aas (p:Nat) (zs:List Nat):Prop where
 lt:∀ z∈zs,z<zd
 may:∀ z∈zs,yw p z=true
theorem aas.zip {p:Nat} {zs ws:List Nat} (h:aas p zs) (hw:∀ v∈ws,v<zd):∀ x∈zs.zip ws,x.1<zd∧x.2<zd∧yw p x.1=true:=fun x hx=>by
 obtain⟨a,b⟩:=x;have:=List.of_mem_zip hx;exact⟨h.lt _ this.1,hw _ this.2,h.may _ this.1⟩
section
variable (p q g h:Nat)
theorem qK (hp:p<zd) (h1:1<p) (zs ws:List Nat) (hz:aas p zs) (hw:∀ v∈ws,v<zd) (hl:ws.length=zs.length) (hne:zs≠[]) (pa pn:Option Addr) (cA cN:Nat) (hn:zs.length≤100) :
  Fn Tryz.prog 108 [yk p q g h,.slice pa zs.length cA,.slice pn zs.length cN]
   (fun w=>RdF zb (.slice pa zs.length cA) zs w∧RdF zb (.slice pn zs.length cN) ws w) (Is (.tuple #[zi (prD p zs ws),.int .i64 0])):=by
 intro w ⟨hA,hN⟩;have hwne:ws≠[]:=fun e=>hne (List.length_eq_zero_iff.1 (by rw[← hl,e];rfl));obtain⟨a0,ha0⟩ : ∃ y,zs[0]?=some y:=⟨_,List.getElem?_eq_getElem (List.length_pos_iff.2 hne)⟩;obtain⟨b0,hb0⟩ : ∃ y,ws[0]?=some y:=⟨_,List.getElem?_eq_getElem (List.length_pos_iff.2 hwne)⟩;obtain⟨bA,oA,e1,_,hsA⟩:=hA.get ha0;obtain⟨bN,oN,e2,_,hsN⟩:=hN.get hb0;subst e1 e2;have hxl:(pwL (p:=p) (zs.zip ws) (hz.zip hw)).length=zs.length:=by rw[acZ,List.length_zip];omega
 have hP:=mb p q g h hp h1 (pwL (zs.zip ws) (hz.zip hw)) bA oA bN oN cA cN (by omega);rw[iX,hxl] at hP;have hm:=oq (p:=p) (zs.zip ws) (hz.zip hw);have f1:(pwL (p:=p) (zs.zip ws) (hz.zip hw)).map (fun x=>x.1.1)=zs:=by
  have:=congrArg (List.map Prod.fst) hm;rw[List.map_map,List.map_fst_zip (by omega)] at this;exact this
 have f2:(pwL (p:=p) (zs.zip ws) (hz.zip hw)).map (fun x=>x.1.2)=ws:=by
  have:=congrArg (List.map Prod.snd) hm;rw[List.map_map,List.map_snd_zip (by omega)] at this;exact this
 refine hP w ⟨RdF.lt (k:=3) (fun _=>rfl) hA hne,RdF.lt (k:=3) (fun _=>rfl) hN hwne,fun k x hx=>?_,fun k x hx=>?_⟩
 ·have:zs[k]?=some x.1.1:=by
   have e:=congrArg (fun l=>l[k]?) f1;simp only[List.getElem?_map,hx] at e;exact e.symm
  have hc:=ua (f:=zb) (k:=4) (fun _=>rfl) this;exact hsA.sub hc
 ·have:ws[k]?=some x.1.2:=by
   have e:=congrArg (fun l=>l[k]?) f2;simp only[List.getElem?_map,hx] at e;exact e.symm
  have hc:=ua (f:=zb) (k:=4) (fun _=>rfl) this;exact hsN.sub hc
end
end Sx
end
section
open Go Go.RowKit Go.BigFrame
namespace Sx
def dOf (q i k:Nat):Nat:=ofZ q ((i:Int) - (k:Int))
def oth (n i:Nat):List Nat:=((List.range n).map (· + 1)).filter (fun k=>decide (k≠i))
def dwF (q i w k:Nat):Nat:=w*uS (dOf q i k) q%q
def dwG (q i:Nat) (l:List Nat):Bool:=l.all fun k=>decide (Nat.gcd (dOf q i k) q=1)
def dw (q n:Nat) (p:List Nat) (i:Nat):Nat:=(oth n i).foldl (dwF q i) (yE p (ofZ q (i:Int))%q)
def dwL (q n:Nat) (p:List Nat):List Nat:=(List.range n).map fun j=>dw q n p (j+1)
def oJ (q n:Nat):Bool:=(List.range n).all fun j=>dwG q (j+1) (oth n (j+1))
def pkN (q k:Nat):List Nat:=List.replicate k 0++[ofZ q 1]
def duB (p q n c:Nat) (V:List Nat):Bool:=decide (n≤c) || (oJ q n && (List.range (n - c)).all fun k=>decide (prD p V (dwL q n (pkN q k))=ofZ q 1))
theorem kA {q:Nat} (z:Int) (h:0<q):ofZ q z<q:=by
 unfold ofZ;split
 ·omega
 ·have h1:=Int.emod_lt_of_pos z (by omega:(0:Int)<(q:Int));have h2:=Int.emod_nonneg z (by omega:(q:Int)≠0);omega
theorem aab {q i k:Nat} (h:0<q):dOf q i k<q:=kA _ h
theorem pG {q m:Nat} (h:2≤q) (hm:m<q):ofZ q (m:Int)=m:=by
 unfold ofZ;rw[if_neg (by omega),Int.emod_eq_of_lt (by omega) (by omega)];omega
theorem abv {q m:Nat} (h:2≤q) (h0:0<m) (hm:m<q):ofZ q (-(m:Int))=q - m:=by
 unfold ofZ;rw[if_neg (by omega)];have:(-(m:Int))%(q:Int)=((q - m:Nat):Int):=by
  rw[← Int.add_emod_right,show -(m:Int)+(q:Int)=((q - m:Nat):Int) by omega];exact Int.emod_eq_of_lt (by omega) (by omega)
 rw[this];omega
theorem adz {q i k:Nat} (h:2≤q) (hk:k≤i) (hi:i<q):dOf q i k=i - k:=by
 unfold dOf;rw[show (i:Int) - (k:Int)=((i - k:Nat):Int) by omega];exact pG h (by omega)
theorem kH {q i k:Nat} (h:2≤q) (hk:i<k) (hi:k - i<q):dOf q i k=q - (k - i):=by
 unfold dOf;rw[show (i:Int) - (k:Int) = -((k - i:Nat):Int) by omega];exact abv h (by omega) hi
theorem ly {n i k:Nat}:k∈oth n i↔1≤k∧k≤n∧k≠i:=by
 unfold oth;simp only[List.mem_filter,List.mem_map,List.mem_range,decide_eq_true_eq];constructor
 ·rintro ⟨⟨a,h,rfl⟩,h2⟩;exact⟨by omega,by omega,h2⟩
 ·rintro ⟨h1,h2,h3⟩;exact⟨⟨k - 1,by omega,by omega⟩,h3⟩
def eA (m i:Nat):List Nat:=((List.range m).map (· + 1)).filter (fun k=>decide (k≠i))
theorem ji {n i:Nat}:eA n i=oth n i:=rfl
theorem tJ {m i:Nat}:eA (m+1) i=eA m i++(if m+1=i then [] else [m+1]):=by
 unfold eA;rw[List.range_succ,List.map_append,List.filter_append];congr 1
 by_cases h:m+1=i<;>simp[h]
theorem fu {i m n:Nat} (h:m≤n):(eA m i).length≤(eA n i).length:=by
 induction h with
 | refl=>exact Nat.le_refl _
 | step _ ih=>rw[tJ,List.length_append];omega
theorem aav {i m n:Nat} (h:m<n) (hi:m+1≠i):(eA m i).length<(oth n i).length:=by
 have:=fu (i:=i) (show m+1≤n from h);rw[tJ,if_neg hi,List.length_append] at this;rw[← ji];exact this
theorem ad7 {q n i:Nat} {p:List Nat} (h:0<q):dw q n p i<q:=by
 unfold dw;have key:∀ (l:List Nat) (w:Nat),w<q→l.foldl (dwF q i) w<q:=by
  intro l
  induction l with
  | nil=>exact fun w hw=>hw
  | cons a r ih=>exact fun w _=>ih _ (Nat.mod_lt _ h)
 exact key _ _ (Nat.mod_lt _ h)
theorem abZ {q i w:Nat} (l:List Nat) (h:w<q):l.foldl (dwF q i) w<q:=by
 induction l generalizing w with
 | nil=>exact h
 | cons a r ih=>exact ih (Nat.mod_lt _ (by omega))
theorem ey {q i w k:Nat} {l:List Nat}:(l++[k]).foldl (dwF q i) w=l.foldl (dwF q i) w*uS (dOf q i k) q%q:=by rw[List.foldl_append];rfl
theorem eK {q n:Nat} {p:List Nat}:(dwL q n p).length=n:=by simp[dwL]
theorem ac2 {q n:Nat} {p:List Nat} (h:0<q):∀ v∈dwL q n p,v<q:=fun v hv=>by
 unfold dwL at hv;obtain⟨j,_,rfl⟩:=List.mem_map.1 hv;exact ad7 h
theorem e9 {q k:Nat}:(pkN q k).length=k+1:=by simp[pkN]
theorem aan {q k:Nat} (h:0<q):∀ a∈pkN q k,a<q:=fun a ha=>by
 unfold pkN at ha;rw[List.mem_append] at ha
 rcases ha with ha|ha
 ·rw[List.eq_of_mem_replicate ha];exact h
 ·rw[List.mem_singleton] at ha;subst ha;exact kA _ h
def Pri (q:Nat):Prop:=1<q∧∀ m,0<m→m<q→Nat.gcd m q=1
theorem bd (a m p:Nat):(a%p) ^ m%p=a ^ m%p:=(Nat.pow_mod a m p).symm
theorem tc (a m k p:Nat):(a ^ m%p) ^ k%p=a ^ (m*k)%p:=by rw[bd,← Nat.pow_mul]
theorem ri (a m k p:Nat):a ^ m%p*(a ^ k%p)%p=a ^ (m+k)%p:=by rw[← Nat.mul_mod,← Nat.pow_add]
theorem tz {p q a:Nat} (h:gIn p q a=true):(1<p∧a≠0∧a<p)∧a ^ q%p=1:=by
 unfold gIn at h;simp only[Bool.and_eq_true,decide_eq_true_eq] at h;exact⟨yM h.1,h.2⟩
theorem mQ {p q a:Nat} (h:gIn p q a=true) (m:Nat):a ^ m%p=a ^ (m%q)%p:=by
 obtain⟨⟨h1,_,_⟩,h2⟩:=tz h;have e:a ^ m=(a ^ q) ^ (m / q)*a ^ (m%q):=by rw[← Nat.pow_mul,← Nat.pow_add,Nat.div_add_mod]
 rw[e,Nat.mul_mod,Nat.pow_mod,h2,Nat.one_pow,Nat.mod_eq_of_lt h1,Nat.one_mul,Nat.mod_mod]
theorem acL {p q a m k:Nat} (h:gIn p q a=true) (e:m%q=k%q):a ^ m%p=a ^ k%p:=by rw[mQ h m,mQ h k,e]
theorem fH {p a:Nat} (h1:1<p) (h2:a≠0) (h3:a<p):yw p a=true:=by
 unfold yw;simp[h1,h2,h3]
theorem pR {p q a:Nat} (h:gIn p q a=true) (hq:0<q) (m:Nat):gIn p q (a ^ m%p)=true:=by
 obtain⟨⟨h1,_,_⟩,h2⟩:=tz h;have e:(a ^ m%p) ^ q%p=1:=by
  rw[tc,Nat.mul_comm,Nat.pow_mul,Nat.pow_mod,h2,Nat.one_pow,Nat.mod_eq_of_lt h1]
 have h0:a ^ m%p≠0:=by
  intro h0;rw[h0,Nat.zero_pow hq] at e;simp at e
 unfold gIn;rw[fH h1 h0 (Nat.mod_lt _ (by omega)),e];rfl
theorem eQ {p q a:Nat} (h:gIn p q a=true) (n:Nat):exN p a n=a ^ n%p:=by
 obtain⟨⟨h1,h2,h3⟩,_⟩:=tz h;unfold exN;rw[fH h1 h2 h3];rfl
def dL:List Nat→List Nat→Nat
 | a::r,b::s=>a*b+dL r s
 | _,_=>0
theorem lL {p g:Nat} (h1:1<p):∀ (es ws:List Nat) (m:Nat),(es.length=ws.length) →
  ((es.map fun e=>g ^ e%p).zip ws).foldl (fun r x=>r*(x.1 ^ x.2%p)%p) (g ^ m%p)=g ^ (m+dL es ws)%p
 | [],_,m,_=>by simp[dL]
 | e::es,[],m,h=>by simp at h
 | e::es,w::ws,m,h=>by
  simp only[List.map_cons,List.zip_cons_cons,List.foldl_cons,dL];rw[tc,ri,lL h1 es ws (m+e*w) (by simpa using h),Nat.add_assoc]
theorem aaE {p g:Nat} (h1:1<p) {es ws:List Nat} (h:es.length=ws.length):prD p (es.map fun e=>g ^ e%p) ws=g ^ dL es ws%p:=by
 have:=lL (g:=g) h1 es ws 0 h;rw[Nat.pow_zero,Nat.mod_eq_of_lt h1,Nat.zero_add] at this;exact this
theorem lQ (f g:Nat→Nat):∀ l:List Nat,((dL (l.map f) (l.map g):Nat):Int)=(l.map fun i=>(f i:Int)*(g i:Int)).sum
 | []=>rfl
 | a::r=>by
  simp only[List.map_cons,dL,List.sum_cons];have:=lQ f g r;push_cast;omega
theorem dA {q r x c:Nat} (hc:c<q) (hr:r<q):((r+x*c%q)%q+x*((0+q - c)%q))%q=r%q:=by
 have h0:(0+q - c)=q - c:=by omega
 rw[h0,Nat.add_mod_mod,Nat.mod_add_mod,← Nat.add_mod_mod,Nat.mul_mod_mod,Nat.add_mod_mod];have:r+x*c+x*(q - c)=r+x*q:=by rw[Nat.add_assoc,← Nat.mul_add];congr 2;omega
 rw[this,Nat.add_mul_mod_self_right]
theorem oE {p q a r x c:Nat} (h:gIn p q a=true) (hc:c<q) (hr:r<q) :
  a ^ ((r+x*c%q)%q)%p*((a ^ x%p) ^ ((0+q - c)%q)%p)%p=a ^ r%p:=by
 rw[tc,ri];exact acL h (dA hc hr)
def qy (i:Nat):List Nat→Int
 | []=>1
 | k::r=>((i:Int) - (k:Int))*qy i r
theorem ae {q:Nat} (h:1<q) (z:Int):(q:Int) ∣ z - (ofZ q z:Int):=by
 unfold ofZ;rw[if_neg (by omega),Int.toNat_of_nonneg (Int.emod_nonneg _ (by omega))];exact Int.dvd_self_sub_emod
theorem sO {q:Nat} (a:Nat):(q:Int) ∣ (a:Int) - ((a%q:Nat):Int):=by
 rw[Int.natCast_emod];exact Int.dvd_self_sub_emod
theorem bJ {q d:Nat} (h:1<q) (hd:d<q) (hg:Nat.gcd d q=1):(q:Int) ∣ (d:Int)*(uS d q:Int) - 1:=by
 have e:=(rT h hd hg).1;have:=sO (q:=q) (uS d q*d);rw[e] at this;rw[Int.mul_comm];exact_mod_cast this
theorem qQ {q i:Nat} (h:1<q):∀ (L:List Nat) (w:Nat),(∀ k∈L,Nat.gcd (dOf q i k) q=1)→(q:Int) ∣ ((L.foldl (dwF q i) w:Nat):Int)*qy i L - (w:Int)
 | [],w,_=>by simp[qy]
 | k::r,w,hG=>by
  have ih:=qQ h r (dwF q i w k) (fun j hj=>hG j (List.mem_cons_of_mem _ hj));have hd:=bJ h (aab (i:=i) (k:=k) (by omega:0<q)) (hG k List.mem_cons_self);have hz:(q:Int) ∣ ((i:Int) - (k:Int)) - (dOf q i k:Int):=ae h _;have hw:(q:Int) ∣ ((w*uS (dOf q i k) q:Nat):Int) - (dwF q i w k:Int):=sO _;rw[List.foldl_cons];generalize r.foldl (dwF q i) (dwF q i w k)=A at *;generalize dwF q i w k=w' at *;generalize dOf q i k=d at *;generalize uS d q=v at *;rw[show qy i (k::r)=((i:Int) - (k:Int))*qy i r from rfl];generalize qy i r=D at *;generalize (i:Int) - (k:Int)=z at *;have e:(A:Int)*(z*D) - (w:Int)=z*((A:Int)*D - w')+((z - d)*w' + (d*(w' - (w*v:Nat))+w*((d:Int)*v - 1))):=by push_cast;grind
  rw[e];refine Int.dvd_add (Int.dvd_mul_of_dvd_right ih) (Int.dvd_add (Int.dvd_mul_of_dvd_left hz) (Int.dvd_add (Int.dvd_mul_of_dvd_right ?_) (Int.dvd_mul_of_dvd_right hd)));have:=Int.dvd_neg.2 hw;rwa [Int.neg_sub] at this
def aL:Nat→Nat
 | 0=>1
 | n+1=>(n+1)*aL n
def bm (n i:Nat):Int:=(aL (n - 1):Int) / qy i (oth n i)
theorem aa4:∀ n∈List.range 8,∀ i∈List.range n,bm n (i+1)*qy (i+1) (oth n (i+1))=(aL (n - 1):Int):=by decide
theorem aci:∀ n∈List.range 8,∀ e∈List.range (n - 1),((List.range n).map fun i=>bm n (i+1)*((i+1:Nat):Int) ^ e).sum=0:=by decide
theorem iW {α:Type} (f g:α→Int):∀ L:List α,(L.map fun i=>f i+g i).sum=(L.map f).sum+(L.map g).sum
 | []=>rfl
 | a::r=>by simp only[List.map_cons,List.sum_cons,iW f g r];omega
theorem m7 {α:Type} (c:Int) (f:α→Int):∀ L:List α,(L.map fun i=>c*f i).sum=c*(L.map f).sum
 | []=>by simp
 | a::r=>by simp only[List.map_cons,List.sum_cons,m7 c f r,Int.mul_add]
theorem fD {α:Type} (q:Int) (f g:α→Int):∀ L:List α,(∀ i∈L,q ∣ f i - g i)→q ∣ (L.map f).sum - (L.map g).sum
 | [],_=>by simp
 | a::r,h=>by
  simp only[List.map_cons,List.sum_cons];have h1:=h a List.mem_cons_self;have h2:=fD q f g r (fun i hi=>h i (List.mem_cons_of_mem _ hi));have:=Int.dvd_add h1 h2;rwa [show f a - g a+((r.map f).sum - (r.map g).sum)=f a+(r.map f).sum - (g a+(r.map g).sum) by omega] at this
theorem lU {n:Nat} (hn:n<8):∀ (l:List Nat) (k:Nat),k+l.length<n→((List.range n).map fun i=>bm n (i+1)*((i+1:Nat):Int) ^ k*(yE l (i+1):Int)).sum=0
 | [],k,_=>by
  simp only[yE];have:(fun i:Nat=>bm n (i+1)*((i+1:Nat):Int) ^ k*((0:Nat):Int))=fun _=>(0:Int):=by funext i;simp
  rw[this];generalize List.range n=L
  induction L with
  | nil=>rfl
  | cons a r ih=>simp only[List.map_cons,List.sum_cons,ih];rfl
 | c::r,k,h=>by
  have h1:=aci n (List.mem_range.2 hn) k (List.mem_range.2 (by simp at h;omega));have h2:=lU hn r (k+1) (by simp at h;omega);have e:(fun i:Nat=>bm n (i+1)*((i+1:Nat):Int) ^ k*(yE (c::r) (i+1):Int))=fun i=>(c:Int)*(bm n (i+1)*((i+1:Nat):Int) ^ k)+bm n (i+1)*((i+1:Nat):Int) ^ (k+1)*(yE r (i+1):Int):=by
   funext i;rw[show yE (c::r) (i+1)=c+(i+1)*yE r (i+1) from rfl];push_cast;rw[Int.pow_succ]
   grind
  rw[e,iW,m7,h1,h2];simp
theorem eW {q:Nat} (hP:Pri q):∀ n,n<q→Nat.gcd (aL n) q=1
 | 0,_=>by simp[aL]
 | n+1,h=>by
  have h1:=eW hP n (by omega);have h2:=hP.2 (n+1) (by omega) h;exact Nat.Coprime.mul_left h2 h1
theorem cU {q k y:Nat} (h:1<q):yE (pkN q k) y=y ^ k:=by
 unfold pkN;rw[j3,List.length_replicate];have:∀ k,yE (List.replicate k 0) y=0:=by
  intro k
  induction k with
  | zero=>rfl
  | succ k ih=>rw[List.replicate_succ,show yE (0::List.replicate k 0) y=0+y*yE (List.replicate k 0) y from rfl,ih,Nat.mul_zero]
 rw[this,show ofZ q 1=1 from pG (m:=1) (by omega) (by omega)];omega
theorem fE {q n k:Nat} {l:List Nat} (hP:Pri q) (hn:n<8) (hnq:n<q) (hk:k+l.length<n) (hA:oJ q n=true) :
  dL ((List.range n).map (shN q l)) ((List.range n).map fun j=>dw q n (pkN q k) (j+1))%q=0:=by
 obtain⟨h1,hp⟩:=hP;have hs:=fD (q:Int) (fun i=>(aL (n - 1):Int)*((shN q l i:Int)*(dw q n (pkN q k) (i+1):Int))) (fun i=>bm n (i+1)*((i+1:Nat):Int) ^ k*(yE l (i+1):Int)) (List.range n) (fun i hi=>by
  have hb:=aa4 n (List.mem_range.2 hn) i hi;have hG:∀ j∈oth n (i+1),Nat.gcd (dOf q (i+1) j) q=1:=by
   unfold oJ at hA;have:=List.all_eq_true.1 hA i hi;unfold dwG at this;exact fun j hj=>of_decide_eq_true (List.all_eq_true.1 this j hj)
  have hf:(q:Int) ∣ (dw q n (pkN q k) (i+1):Int)*qy (i+1) (oth n (i+1)) - ((yE (pkN q k) (ofZ q ((i+1:Nat):Int))%q:Nat):Int):=qQ h1 _ _ hG;rw[pG (m:=i+1) (by omega) (by have:=List.mem_range.1 hi;omega),cU h1] at hf;have hw:=sO (q:=q) ((i+1) ^ k);have hl:(q:Int) ∣ (yE l (i+1):Int) - (shN q l i:Int):=sO _;rw[← hb];have hpw:(((i+1) ^ k:Nat):Int)=((i+1:Nat):Int) ^ k:=by push_cast;rfl
  rw[hpw] at hw;generalize (dw q n (pkN q k) (i+1):Int)=W at *;generalize qy (i+1) (oth n (i+1))=D at *;generalize (((i+1) ^ k%q:Nat):Int)=u at *;generalize ((i+1:Nat):Int) ^ k=y at *;generalize (yE l (i+1):Int)=P at *;generalize (shN q l i:Int)=s at *;generalize bm n (i+1)=b at *;have e:b*D*(s*W) - b*y*P=(b*s)*(W*D - u)+((b*s)*(u - y)+(b*y)*(s - P)):=by grind
  rw[e];have hw':=Int.dvd_neg.2 hw;have hl':=Int.dvd_neg.2 hl;rw[Int.neg_sub] at hw' hl';exact Int.dvd_add (Int.dvd_mul_of_dvd_right hf) (Int.dvd_add (Int.dvd_mul_of_dvd_right hw') (Int.dvd_mul_of_dvd_right hl')))
 rw[lU hn l k hk,m7,Int.sub_zero,← lQ] at hs;have hs' : q ∣ aL (n - 1)*dL ((List.range n).map (shN q l)) ((List.range n).map fun j=>dw q n (pkN q k) (j+1)):=by exact_mod_cast hs
 have hc:Nat.Coprime q (aL (n - 1)):=Nat.Coprime.symm (eW ⟨h1,hp⟩ (n - 1) (by omega));exact Nat.mod_eq_zero_of_dvd (Nat.Coprime.dvd_of_dvd_mul_left hc hs')
theorem jc {q n:Nat} (hP:Pri q) (hnq:n<q):oJ q n=true:=by
 unfold oJ dwG;rw[List.all_eq_true];intro i hi;have hi':=List.mem_range.1 hi;rw[List.all_eq_true];intro k hk;obtain⟨k1,k2,k3⟩:=ly.1 hk;rw[decide_eq_true_eq];have h1:=hP.1
 rcases Nat.lt_or_ge k (i+1) with h|h
 ·rw[adz (by omega) (by omega) (by omega)];exact hP.2 _ (by omega) (by omega)
 ·rw[kH (by omega) (by omega) (by omega)];exact hP.2 _ (by omega) (by omega)
theorem iN {n d:Nat} (h2:2≤n) (hd:n<d*d) (h:∀ e,2≤e→e<d→n%e≠0):Pri n:=by
 refine⟨by omega,fun m h0 hm=>?_⟩;have hgn:Nat.gcd m n ∣ n:=Nat.gcd_dvd_right m n;have hgm:Nat.gcd m n≤m:=Nat.le_of_dvd h0 (Nat.gcd_dvd_left m n);have hg0:0<Nat.gcd m n:=Nat.gcd_pos_of_pos_left n h0;generalize Nat.gcd m n=g at *
 rcases Nat.lt_or_ge 1 g with hg|hg
 ·exfalso;obtain⟨k,rfl⟩:=hgn;have hk:1<k:=by
   rcases Nat.lt_or_ge 1 k with h1|h1
   ·exact h1
   ·have:g*k≤g*1:=Nat.mul_le_mul_left g h1;omega
  rcases Nat.lt_or_ge g d with h1|h1
  ·exact h g (by omega) h1 (Nat.mul_mod_right g k)
  ·rcases Nat.lt_or_ge k d with h3|h3
   ·exact h k (by omega) h3 (Nat.mul_mod_left g k)
   ·have:=Nat.mul_le_mul h1 h3;omega
 ·omega
end Sx
end
end Go.Proofs.YteibfbjpkjkejaaGreatDoor
