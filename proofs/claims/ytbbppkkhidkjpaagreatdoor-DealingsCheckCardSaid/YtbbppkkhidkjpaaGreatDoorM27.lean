/- Part 27 of the proof. -/
import Derived.Test.YtbbppkkhidkjpaaGreatDoorM24
import Derived.Test.YtbbppkkhidkjpaaGreatDoorM25
import Derived.Test.YtbbppkkhidkjpaaGreatDoorM26
set_option linter.unusedSimpArgs false
set_option linter.unusedVariables false
set_option maxHeartbeats 8000000
namespace Go.Proofs.YtbbppkkhidkjpaaGreatDoor
section
open Go Go.RowKit Go.BigFrame
namespace Sx
attribute [local irreducible] DQ DQS WC WO WX wd
theorem tq (s:List Nat) (Ps:List (List Nat)):(zS s Ps).length=8+s.length+(yb Ps).length:=by
 unfold zS vn;simp only[List.length_append,zj];omega
theorem fH {s:List Nat} {Ps:List (List Nat)} (hs:∀ x∈s,x<256) (hP:∀ X∈Ps,∀ x∈X,x<256):∀ x∈zS s Ps,x<256:=by
 unfold zS vn;refine qw (qw (qw tE hs) tE) ?_;intro x hx;unfold yb at hx;obtain⟨X,hX,hx⟩:=List.mem_flatMap.1 hx
 rcases List.mem_append.1 hx with hx|hx
 ·exact tE x hx
 ·exact hP X hX x hx
theorem bE (s:ByteArray) (vs:List Value) (Ps:List (List Nat)) (B O C:Nat) (hb:(zS (zN s) Ps).length≤274877906944) :
  Fn Tryz.prog 100 [.string s,.slice (some ⟨B,O,none⟩) vs.length C] (fun w=>Seg w B O vs∧zQ vs Ps w) (adC 5 (byC (zS (zN s) Ps))):=by
 have hsz:=yG s;rw[tq] at hb;have hs' : (zN s).length≤274877906944:=by omega
 refine Fn.enter Tryz.func100 rfl rfl rfl ?_;intro w hw;obtain⟨hw1,hw2⟩:=hw;have hN:=hw2.1;have hNs:Ps.length*4≤(yb Ps).length:=by
  clear hb hw2 hN
  induction Ps with
  | nil=>simp
  | cons X Ps ih=>simp only[yb,List.flatMap_cons,List.length_append,List.length_cons,zj] at ih ⊢;omega
 repeat (first|refine Tw ?_|(refine Tm ?_;intro _)|exact Tz)
 refine WO.news (jT (by rfl) (by omega)) (fun x hx=>?_);obtain⟨hx1,hx2⟩:=hx;generalize x 0=gb at *;generalize x 1=cb at *;have hx1' : (zN s).length≤cb:=by omega
 rw[← hsz];have hPB:=oc [] (zN s) none (some ⟨gb,0,none⟩) 0 cb (by decide) hs'
 repeat (first|refine Tw ?_|(refine Tm ?_;intro _)|exact Tz)
 refine WO.acallA (hc:=hPB) (hR:=fun w1 hm=>⟨Rd.nil,(RdP.own hm Hs.here hx1' hx2).rd⟩) (hm:=zd _) (k:=fun gp cp r h1 h2=>?_);have hcv:IntKind.u64.wrap ((vs.length:Nat):Int)=((vs.length:Nat):Int):=u64_in (by omega) (by omega);have hhl:([]++be 4 (zN s).length++zN s).length=4+(zN s).length:=by simp only[List.nil_append,List.length_append,zj]
 have hP4:=dk ([]++be 4 (zN s).length++zN s) vs.length 4 cp (some ⟨gp,0,none⟩) (by decide) (by decide) (by omega) (by omega);have hHd:[]++be 4 (zN s).length++zN s++be 4 vs.length=vn (zN s) Ps.length:=by rw[hN];simp[vn]
 rw[hHd] at hP4
 repeat (first|refine WO.does (zu rfl hcv) ?_|refine Ta ?_|(refine Tm ?_;intro _)|refine Tc ?_|exact Tz)
 refine WO.acallA (hc:=Fn.newZ hP4) (hR:=fun w1 hm=>jy hm Hs.here h1 h2) (hm:=zd _) (k:=fun g4 c4 r4 h3 h4=>?_)
 repeat (first|refine Tw ?_|(refine Tm ?_;intro _)|exact Tz)
 have hhd:(vn (zN s) Ps.length).length=8+(zN s).length:=by unfold vn;simp only[List.length_append,zj];omega
 refine WC.loopI (σ:=Nat × Nat × Nat × List Value) (fun x=>x.1≤vs.length∧(byC (vn (zN s) Ps.length++yb (Ps.take x.1))++x.2.2.2).length=x.2.2.1∧x.2.2.1<9223372036854775808)
  (fun x=>[(1,.slice (some ⟨B,O,none⟩) vs.length C),(5,.slice (some ⟨x.2.1,0,none⟩) (vn (zN s) Ps.length++yb (Ps.take x.1)).length x.2.2.1),(6,.int .i64 (x.1:Int))])
  (fun x=>[⟨x.2.1,5,byC (vn (zN s) Ps.length++yb (Ps.take x.1))++x.2.2.2⟩]) (fun x=>vs.length - x.1) (0,g4,c4,r4) (fun x hx=>?_) ⟨Nat.zero_le _,by simpa [yb] using h3,h4⟩ (by
   simp only[List.take_zero,show yb []=[] from rfl,List.append_nil]
   repeat (first|exact Kle.nil|refine Kle.cons rfl rfl ?_)) (by
   simp only[List.take_zero,show yb []=[] from rfl,List.append_nil]
   repeat (first|exact Lle.nil|refine Lle.c ?_))
 clear hP4 hPB h1 h2 h3 h4 hHd hhl;obtain⟨i,g,c,r⟩:=x;obtain⟨hi,h1,h2⟩:=hx;dsimp only at hi h1 h2 ⊢
 by_cases hlt:i<vs.length
 ·obtain⟨v,hv⟩ : ∃ v,vs[i]?=some v:=⟨_,List.getElem?_eq_getElem hlt⟩;obtain⟨X,hX⟩ : ∃ X,Ps[i]?=some X:=⟨_,List.getElem?_eq_getElem (by omega)⟩;have hR:=hw2.2 i v X hv hX;have hle:=jH hX;have hnx:=rA hX;have hRr:=hR;obtain⟨p,cx,rfl,hc1,hc2,hpc⟩:=hR;have hvs:vs[O+i - O]?=some (.slice p X.length cx):=by rw[Nat.add_sub_cancel_left];exact hv
  have hal:(vn (zN s) Ps.length++yb (Ps.take i)).length=8+(zN s).length+(yb (Ps.take i)).length:=by rw[List.length_append,hhd]
  have hP:=oc (vn (zN s) Ps.length++yb (Ps.take i)) X (some ⟨g,0,none⟩) p c cx (by omega) (by omega);rw[List.append_assoc,List.append_assoc,← List.append_assoc (yb _),← hnx] at hP;generalize vn (zN s) Ps.length++yb (Ps.take i)=Z at *
  repeat (first|refine Tw ?_|(refine Tm ?_;intro _)|exact Tz)
  refine WC.dT rfl (by omega) ?_
  repeat (first|refine WO.does (za (o':=O+i) rfl rfl hlt (by omega)) ?_|refine WO.does (zi (hs:=hw1) (hle:=Nat.le_add_right _ _) (hc:=hvs)) ?_|refine Ta ?_|(refine Tm ?_;intro _)|refine Tc ?_|exact Tz)
  refine WO.acallA (hc:=hP) (hR:=fun w1 hm=>⟨jy hm Hs.here h1 h2,(hRr.mod hm.mod (by simp)).rd⟩) (hm:=zd _) (k:=fun g' c' r' hd1 hd2=>?_)
  repeat (first|refine Tw ?_|(refine Tm ?_;intro _)|exact Tz)
  exact WX.metI (i+1,g',c',r') (hs:=⟨⟨by show i+1≤vs.length;omega,hd1,hd2⟩,by show vs.length - (i+1)<vs.length - i;omega⟩)
 ·have hie:i=Ps.length:=by omega
  rw[show Ps.take i=Ps by rw[hie,List.take_length],show vn (zN s) Ps.length++yb Ps=zS (zN s) Ps from rfl] at *
  repeat (first|refine Tw ?_|(refine Tm ?_;intro _)|exact Tz)
  refine WC.dF rfl (by omega) ?_
  repeat (first|refine Tw ?_|(refine Tm ?_;intro _)|exact Tz)
  exact WX.retA h1 h2 (zd _)
theorem ac7 (s:ByteArray) (vs:List Value) (Ps:List (List Nat)) (B O C:Nat) (hP:∀ X∈Ps,∀ x∈X,x<256) (hb:(zS (zN s) Ps).length≤274877906944) :
  Fn Tryz.prog 46 [.string s,.slice (some ⟨B,O,none⟩) vs.length C] (fun w=>Seg w B O vs∧zQ vs Ps w) (Is (.agg (byC (hOf (zN s) Ps)).toArray)):=by
 have h1:=bE s vs Ps B O C hb;have h2:=fun g c=>ad2 (zS (zN s) Ps) c (some ⟨g,0,none⟩) (fH (ce s) hP) (by omega);rw[show Sha.sum (zS (zN s) Ps)=hOf (zN s) Ps from rfl] at h2;have hout:=kd (zN s) Ps;generalize hOf (zN s) Ps=H at *;generalize zS (zN s) Ps=Z at *;refine Fn.enter Tryz.func46 rfl rfl rfl ?_;intro w hw
 repeat (first|refine Tw ?_|(refine Tm ?_;intro _)|exact Tz)
 refine WO.acallA (hc:=h1) (hR:=fun w1 hm=>⟨hw.1.mod hm.mod (by simp),hw.2.mod hm.mod (by simp)⟩) (hm:=zd _) (k:=fun g c r e1 e2=>?_)
 repeat (first|refine Tw ?_|(refine Tm ?_;intro _)|exact Tz)
 refine WO.acallR (hc:=h2 g c) (hR:=fun w1 hm=>jy hm Hs.here e1 e2) (k:=?_)
 repeat (first|refine WO.stores (zB (vs:=byC H) (cs':=byC H) (hl:=hout) (h1:=yF _) (hc:=ve (by rw[hout];rfl)) (hle:=by rw[hout];rfl)) ?_|refine Ta ?_|(refine Tm ?_;intro _)|refine Tc ?_|exact Tz)
 exact WX.aret1 (hr:=uh (vs:=byC H) (hc:=yl hout) (hl:=hout)) (hp:=rfl)
end Sx
end
end Go.Proofs.YtbbppkkhidkjpaaGreatDoor
