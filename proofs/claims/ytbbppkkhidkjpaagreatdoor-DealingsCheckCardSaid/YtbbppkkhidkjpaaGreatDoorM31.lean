/- Part 31 of the proof. -/
import Derived.Test.YtbbppkkhidkjpaaGreatDoorM27
import Derived.Test.YtbbppkkhidkjpaaGreatDoorM28
import Derived.Test.YtbbppkkhidkjpaaGreatDoorM30
set_option linter.unusedSimpArgs false
set_option linter.unusedVariables false
set_option maxHeartbeats 8000000
namespace Go.Proofs.YtbbppkkhidkjpaaGreatDoor
section
open Go Go.RowKit Go.BigFrame
namespace Sx
attribute [local irreducible] DQ DQS WC WO WX wd
theorem ik {l:List Nat} (h:∀ b∈l,b<256) (hl:l.length=32):beV l<zb:=by
 have:=mO h;rw[hl] at this;exact Nat.lt_of_lt_of_eq this (by decide)
theorem jm (s:List Nat) (Ps:List (List Nat)) (k:Nat):(zS s (Ps++[[k]])).length=(zS s Ps).length+5:=by
 rw[tq,tq,ri];simp only[List.length_append,zj,List.length_cons,List.length_nil];omega
theorem mV (m:Nat) (s:ByteArray) (vs:List Value) (Ps:List (List Nat)) (B O C:Nat) (hm:m<zb) (h0:0<m) (hP:∀ X∈Ps,∀ x∈X,x<256) (hb:(zS (zN s) Ps).length≤137438953472) (hv0:0<vs.length) :
  Fn Tryz.prog 147 [zf m,.string s,.slice (some ⟨B,O,none⟩) vs.length C] (fun w=>Seg w B O vs∧zQ vs Ps w) (Is (.tuple #[zf (kY m (zN s) Ps),.int .i64 0])):=by
 have hne:decide (m=0)=false:=decide_eq_false (by omega);have hbN:vs.length=Ps.length→vs.length≤137438953472:=fun h=>by
  have hNs:Ps.length*4≤(yb Ps).length:=by
   clear hb hP h
   induction Ps with
   | nil=>simp
   | cons X Ps ih=>simp only[yb,List.flatMap_cons,List.length_append,List.length_cons,zj] at ih ⊢;omega
  rw[tq] at hb;omega
 have hPk:∀ k,k<256→∀ X∈Ps++[[k]],∀ x∈X,x<256:=fun k hk X hX x hx=>by
  rcases List.mem_append.1 hX with hX|hX
  ·exact hP X hX x hx
  ·simp at hX;subst hX;simp at hx;omega
 have hO:=fun k (hk:k<256) g g' c=>ac7 s (vs++[.slice (some ⟨g,0,none⟩) 1 1]) (Ps++[[k]]) g' 0 c (hPk k hk) (by rw[jm];omega);have hol:=fun k=>kd (zN s) (Ps++[[k]]);have hol':=fun k=>uv (zN s) (Ps++[[k]]);have hob:=fun k=>pS (zN s) (Ps++[[k]]);have hres:kY m (zN s) Ps=(beV (hOf (zN s) (Ps++[[0]]))*zb+beV (hOf (zN s) (Ps++[[1]])))%m:=rfl;rw[hres];have hG0:=fun g=>mJ (hOf (zN s) (Ps++[[0]])) g 0 (hob 0) (hol' 0);have hG1:=fun g=>mJ (hOf (zN s) (Ps++[[1]])) g 0 (hob 1) (hol' 1);have hWd:=aaE (beV (hOf (zN s) (Ps++[[1]]))) (beV (hOf (zN s) (Ps++[[0]]))) m (ik (hob 1) (hol' 1)) (ik (hob 0) (hol' 0)) hm h0;have hO0:=hO 0 (by decide);have hO1:=hO 1 (by decide);have ho0:=hol 0;have ho1:=hol 1;clear hO hol hol' hob hres hPk;generalize (beV (hOf (zN s) (Ps++[[0]]))*zb+beV (hOf (zN s) (Ps++[[1]])))%m=R at *;generalize beV (hOf (zN s) (Ps++[[0]]))=V0 at *;generalize beV (hOf (zN s) (Ps++[[1]]))=V1 at *;generalize hOf (zN s) (Ps++[[0]])=H0 at *;generalize hOf (zN s) (Ps++[[1]])=H1 at *;simp only[List.length_append,List.length_cons,List.length_nil,Nat.zero_add] at hO0 hO1;refine Fn.enter Tryz.func147 rfl rfl rfl ?_;intro w hw;obtain⟨hw1,hw2⟩:=hw;have hvb:=hbN hw2.1;have hcu:cut vs (O - O) vs.length=vs:=by rw[Nat.sub_self];exact yl rfl
 repeat (first|refine Ta ?_|(refine Tm ?_;intro _)|refine WO.does zZ ?_|refine Tc ?_|exact Tz)
 rw[hne]
 repeat (first|refine Tw ?_|(refine Tm ?_;intro _)|exact Tz)
 refine WO.news (vF (z:=[Value.slice none 0 0]) (n:=vs.length) rfl rfl (ys:=[]) Rds.nil rfl (Rds.seg hw1 (Nat.le_refl _) (by simp) hcu) (by simp) (by omega) (by omega) (growslice_fits (by omega) (by omega)) (by decide) rfl) (fun x hx=>?_);obtain⟨hx1,hx2⟩:=hx;generalize x 0=gA at *;generalize x 1=cA at *;rw[Nat.zero_add] at hx1;rw[Nat.zero_add,List.nil_append]
 repeat (first|refine Ta ?_|(refine Tm ?_;intro _)|(refine WO.makes (ze (cs:=[.int .u8 0]) rfl (by decide) rfl) ?_;intro _)|(refine WO.makes (ze (t:=119) (cs:=[_]) rfl (by decide) rfl) ?_;intro _)|refine Tc ?_|exact Tz)
 rename_i gB gP;refine WO.appB (g:=gA) (z0:=Value.slice none 0 0) (xs:=vs) (r:=mkz (cA - vs.length) [Value.slice none 0 0]) (ys:=[.slice (some ⟨gB,0,none⟩) 1 1]) (m:=1) (l:=vs.length+1) rfl rfl rfl (by rw[List.length_append,zC];simp;omega) Pk.a (Rds.own (m:=1) Hs.here rfl) rfl rfl rfl (by omega) hx2 (by omega) (by decide) (by decide) (fun g' c' r' hd1 hd2=>?_);refine WO.acallR (hc:=hO0 gB g' c') (hR:=fun w1 hm=>⟨Seg.left (Hs.sg hm),zQ.snoc (RdP.own0 (X:=[0]) (t:=5) hm Hs.a (by decide) (by decide)) (hw2.mod hm.mod (by simp))⟩) (k:=?_)
 repeat (first|refine WO.stores (zB (vs:=byC H0) (cs':=byC H0) (hl:=ho0) (h1:=yF _) (hc:=ve (by rw[ho0];rfl)) (hle:=by rw[ho0];rfl)) ?_|refine Ta ?_|(refine Tm ?_;intro _)|refine Tc ?_|exact Tz)
 refine WO.news (vF (z:=[Value.slice none 0 0]) (n:=vs.length) rfl rfl (ys:=[]) Rds.nil rfl (Rds.seg hw1 (Nat.le_refl _) (by simp) hcu) (by simp) (by omega) (by omega) (growslice_fits (by omega) (by omega)) (by decide) rfl) (fun x hx=>?_);obtain⟨hx1,hx2⟩:=hx;generalize x 0=gA at *;generalize x 1=cA at *;rw[Nat.zero_add] at hx1;rw[Nat.zero_add,List.nil_append]
 repeat (first|refine Ta ?_|(refine Tm ?_;intro _)|(refine WO.makes (ze (cs:=[.int .u8 1]) rfl (by decide) rfl) ?_;intro _)|(refine WO.makes (ze (t:=119) (cs:=[_]) rfl (by decide) rfl) ?_;intro _)|refine Tc ?_|exact Tz)
 rename_i gB gP;refine WO.appB (g:=gA) (z0:=Value.slice none 0 0) (xs:=vs) (r:=mkz (cA - vs.length) [Value.slice none 0 0]) (ys:=[.slice (some ⟨gB,0,none⟩) 1 1]) (m:=1) (l:=vs.length+1) rfl rfl rfl (by rw[List.length_append,zC];simp;omega) Pk.a (Rds.own (m:=1) Hs.here rfl) rfl rfl rfl (by omega) hx2 (by omega) (by decide) (by decide) (fun g' c' r' hd1 hd2=>?_);refine WO.acallR (hc:=hO1 gB g' c') (hR:=fun w1 hm=>⟨Seg.left (Hs.sg hm),zQ.snoc (RdP.own0 (X:=[1]) (t:=5) hm Hs.a (by decide) (by decide)) (hw2.mod hm.mod (by simp))⟩) (k:=?_)
 repeat (first|refine WO.stores (zB (vs:=byC H1) (cs':=byC H1) (hl:=ho1) (h1:=yF _) (hc:=ve (by rw[ho1];rfl)) (hle:=by rw[ho1];rfl)) ?_|refine Ta ?_|(refine Tm ?_;intro _)|refine Tc ?_|exact Tz)
 repeat (first|refine Ta ?_|(refine Tm ?_;intro _)|refine WO.does (yx rfl) ?_|refine WO.acallR (hc:=hG0 _) (hR:=fun w1 hm=>Hs.sg hm) (k:=?_)|refine Tc ?_|exact Tz)
 repeat (first|refine Ta ?_|(refine Tm ?_;intro _)|refine WO.does (yx rfl) ?_|refine WO.acallR (hc:=hG1 _) (hR:=fun w1 hm=>Hs.sg hm) (k:=?_)|refine WO.acall (hc:=hWd) (k:=?_)|refine Tc ?_|exact Tz)
end Sx
end
end Go.Proofs.YtbbppkkhidkjpaaGreatDoor
