/- Part 18 of the proof. -/
import Derived.Test.YtiiefkchpicncaaGreatDoorB14
import Derived.Test.YtiiefkchpicncaaGreatDoorB15
set_option linter.unusedSimpArgs false
set_option linter.unusedVariables false
set_option maxHeartbeats 8000000
namespace Go.Proofs.YtiiefkchpicncaaGreatDoor
section
open Go Go.RowKit Go.BigFrame
namespace Sx
attribute [local irreducible] DQ WC WO WX wd
theorem aci {b:List Nat}:∀ q,∀ x∈Sha.takes Sha.H0 b q,x<4294967296
 | 0=>by simp only[Sha.takes];decide
 | q+1=>db
structure Hd (m s buf:List Nat) (n:Nat):Prop where
 held:ic m s buf n
 s8:s.length=8
 sl:∀ x∈s,x<4294967296
 bl:∀ x∈buf,x<256
theorem Hd.new:Hd [] Sha.H0 (List.replicate 64 0) 0:=⟨ic.nil rfl,rfl,by decide,fun x hx=>by have:=List.eq_of_mem_replicate hx;omega⟩
theorem Hd.wr {m s buf X:List Nat} {n:Nat} (h:Hd m s buf n) (hX:∀ x∈X,x<256):Hd (m++X) (wr s buf n X).1 (wr s buf n X).2.1 (wr s buf n X).2.2:=by
 have hH:=ic.wr X.length (Nat.le_refl _) h.held;exact⟨hH,by rw[hH.s];exact uf rfl _,by rw[hH.s];exact aci _,adk X.length (Nat.le_refl _) h.bl hX⟩
theorem Hd.write {m s buf X:List Nat} {n:Nat} (h:Hd m s buf n) (hX:∀ x∈X,x<256) (hn:m.length+X.length≤1152921504606846976) (g c:Nat) (p:Option Addr) :
  ∃ s' b' n',Hd (m++X) s' b' n'∧FnM Tryz.prog 67 [pt g,.slice p X.length c] g 215 (vY s buf n) (vY s' b' n') (RdN g (.slice p X.length c) X.length (byC X)) (.int .i64 0) :=
 ⟨_,_,_,h.wr hX,fL g c p s buf n X hX h.s8 h.sl h.held.len h.bl (by rw[h.held.n];exact hn)⟩
theorem aeS (s:ByteArray):∀ x∈ya s,x<256:=by
 intro x hx;unfold ya at hx;obtain⟨b,_,rfl⟩:=List.mem_map.1 hx;exact b.toNat_lt
theorem yI (s:ByteArray):(ya s).length=s.size:=by simp[ya]
theorem iC {X Y:List Nat} {b:Nat} (h:∀ x∈X,x<b) (k:∀ x∈Y,x<b):∀ x∈X++Y,x<b:=fun x hx=>(List.mem_append.1 hx).elim (h x) (k x)
theorem abC (s:ByteArray) (vs:List Value) (Ps:List (List Nat)) (B O C:Nat) (hP:∀ X∈Ps,∀ x∈X,x<256) (hb:(yV (ya s) Ps).length≤1152921504606840000) (hs:s.size≤274877906944) :
  Fn Tryz.prog 30 [.string s,.slice (some ⟨B,O,none⟩) vs.length C] (fun w=>Seg w B O vs∧yb vs Ps w) (Is (.agg (byC (hOf (ya s) Ps)).toArray)):=by
 have hsz:=yI s;have hbl:(yV (ya s) Ps).length=4+s.size+4+(y6 Ps).length:=by unfold yV tj;simp only[List.length_append,zn,hsz]
 have hHd:tj (ya s) Ps.length=[]++([]++be 4 (ya s).length++ya s)++([]++be 4 Ps.length):=by simp[tj]
 refine Fn.enter Tryz.func30 rfl rfl rfl ?_;intro w hw;obtain⟨hw1,hw2⟩:=hw;have hN:=hw2.1;have hNs:Ps.length*4≤(y6 Ps).length:=by
  clear hb hbl hHd hw2 hN hP
  induction Ps with
  | nil=>simp
  | cons X Ps ih=>simp only[y6,List.flatMap_cons,List.length_append,List.length_cons,zn] at ih ⊢;omega
 repeat (first|refine Tw ?_|(refine Tm ?_;intro _)|exact Tz)
 rename_i gO;refine WO.acallX (f:=66) (hc:=acU) (hR:=fun _ _=>trivial) (k:=fun x _=>?_);generalize x 0=gS
 repeat (first|refine Tw ?_|(refine Tm ?_;intro _)|exact Tz)
 refine WO.news (ab6 (by rfl) Om) (fun x hx=>?_);obtain⟨hx1,hx2⟩:=hx;generalize x 0=gb at *;generalize x 1=cb at *;have hs' : (ya s).length≤274877906944:=by omega
 have hx1' : (ya s).length≤cb:=by omega
 rw[← hsz];have hPB:=eM [] (ya s) none (some ⟨gb,0,none⟩) 0 cb (by decide) hs';refine WO.acallL (hc:=hPB) (hR:=fun w1 hm=>⟨Rd.nil,(RdP.own hm Hs.here hx1' hx2).rd⟩) (k:=fun gp cp r h1 h2=>?_);refine WO.ndp (fun hnd=>?_);have hne:gp≠gS:=by simp at hnd;exact hnd.1.2.1
 clear hnd;have hXl:∀ x∈[]++be 4 (ya s).length++ya s,x<256:=iC (iC (by simp) uK) (aeS s);obtain⟨s1,b1,n1,hH1,hW1⟩:=Hd.new.write hXl (by simp[zn];omega) gS cp (some ⟨gp,0,none⟩);refine WO.callM (hc:=hW1) rfl (by repeat (first|exact Rp.here|apply Rp.there)) (fun w1 hm=>RdN.own hm Hs.here hne h1 h2) (by decide) ?_ rfl rfl;have hcv:IntKind.u64.wrap ((vs.length:Nat):Int)=((vs.length:Nat):Int):=u64_in Om Om;have hP4:=fh [] Ps.length 4 0 none (by decide) (by decide);rw[← hN] at hP4
 repeat (first|refine WO.does (zB rfl hcv) ?_|refine Ta ?_|(refine Tm ?_;intro _)|refine Tc ?_|exact Tz)
 refine WO.acallN (hc:=hP4) (hR:=fun w1 hm=>Rd.nil) (k:=fun g4=>?_);refine WO.ndp (fun hnd=>?_);have hne4:g4≠gS:=by simp at hnd;exact hnd.1.2.2.1
 clear hnd;have hXl4:∀ x∈[]++be 4 vs.length,x<256:=iC (by simp) uK;obtain⟨s2,b2,n2,hH2,hW2⟩:=hH1.write hXl4 (by simp[zn];omega) gS ([]++be 4 vs.length).length (some ⟨g4,0,none⟩);refine WO.callM (hc:=hW2) rfl (by repeat (first|exact Rp.here|apply Rp.there)) (fun w1 hm=>RdN.own0 hm Hs.here hne4 (Nat.le_refl _) (by simp[zn])) (by decide) ?_ rfl rfl
 repeat (first|refine Tw ?_|(refine Tm ?_;intro _)|exact Tz)
 rw[hN,← hHd] at hH2;clear hW1 hW2 hH1 hP4 hPB hXl hXl4
 refine WC.loopI (σ:=Nat × List Nat × List Nat × Nat) (fun x=>x.1≤vs.length∧Hd (tj (ya s) Ps.length++y6 (Ps.take x.1)) x.2.1 x.2.2.1 x.2.2.2)
  (fun x=>[(4,pt gO),(5,pt gS),(20,.slice (some ⟨B,O,none⟩) vs.length C),(21,.int .i64 (vs.length:Int)),(22,.int .i64 (x.1:Int))])
  (fun x=>[⟨gS,215,vY x.2.1 x.2.2.1 x.2.2.2⟩,⟨gO,53,List.replicate 32 (.int .u8 0)⟩]) (fun x=>vs.length - x.1) (0,s2,b2,n2) (fun x hx=>?_) ⟨Nat.zero_le _,by simpa [y6] using hH2⟩
 clear hH2;obtain⟨i,s3,b3,n3⟩:=x;obtain⟨hi,hH⟩:=hx;dsimp only at hi hH ⊢
 repeat (first|refine Tw ?_|(refine Tm ?_;intro _)|exact Tz)
 by_cases hlt:i<vs.length
 ·refine WC.dT rfl Om ?_;obtain⟨v,hv⟩ : ∃ v,vs[i]?=some v:=⟨_,List.getElem?_eq_getElem hlt⟩;obtain⟨X,hX⟩ : ∃ X,Ps[i]?=some X:=⟨_,List.getElem?_eq_getElem Om⟩;have hR:=hw2.2 i v X hv hX;have hXb:=hP X (List.mem_of_getElem? hX);have hle:=aaK hX;have hle2:(tj (ya s) Ps.length++y6 (Ps.take i)).length+4+X.length≤1152921504606840000:=by
   rw[List.length_append];unfold tj;simp only[List.length_append,zn,hsz];omega
  have hnx:=oa hX;have hcx:IntKind.u64.wrap ((X.length:Nat):Int)=((X.length:Nat):Int):=u64_in Om Om;have hi1:IntKind.i64.wrap (((i:Nat):Int)+1)=((i+1:Nat):Int):=zo Om Om Om;have hP4:=fh [] X.length 4 0 none (by decide) (by decide);have hXl4:∀ x∈[]++be 4 X.length,x<256:=iC (by simp) uK;have hRr:=hR;obtain⟨p,c,rfl,hc1,hc2,hpc⟩:=hR;have hvs:vs[O+i - O]?=some (.slice p X.length c):=by rw[Nat.add_sub_cancel_left];exact hv
  repeat (first|refine WO.does (zb (o':=O+i) rfl rfl hlt Om) ?_|refine WO.does (zm (hs:=hw1) (hle:=Nat.le_add_right _ _) (hc:=hvs)) ?_|refine WO.does (zB rfl hcx) ?_|refine Ta ?_|(refine Tm ?_;intro _)|refine Tc ?_|exact Tz)
  refine WO.acallN (hc:=hP4) (hR:=fun w1 hm=>Rd.nil) (k:=fun g5=>?_);refine WO.ndp (fun hnd=>?_);have hne5:g5≠gS:=by simp at hnd;exact hnd.1.1
  clear hnd;obtain⟨s4,b4,n4,hH4,hW4⟩:=hH.write hXl4 (by simp only[List.nil_append,zn];omega) gS ([]++be 4 X.length).length (some ⟨g5,0,none⟩);refine WO.callM (hc:=hW4) rfl (by repeat (first|exact Rp.here|apply Rp.there)) (fun w1 hm=>RdN.own0 hm Hs.here hne5 (Nat.le_refl _) (by simp[zn])) (by decide) ?_ rfl rfl
  repeat (first|refine Tw ?_|(refine Tm ?_;intro _)|exact Tz)
  refine WO.mine (fun hmn=>?_);have hgS:w.heap.size≤gS:=(hmn _ (List.mem_cons_of_mem _ (List.mem_cons_self ..))).resolve_right (by simp);clear hmn;obtain⟨s5,b5,n5,hH5,hW5⟩:=hH4.write hXb (by simp only[List.nil_append,List.length_append,zn] at hle2 ⊢;omega) gS c p;refine WO.callM (hc:=hW5) rfl (by repeat (first|exact Rp.here|apply Rp.there)) (fun w1 hm=>hRr.rdN hgS hm) (by decide) ?_ rfl rfl
  repeat (first|refine WO.does (ze rfl rfl hi1) ?_|refine Ta ?_|(refine Tm ?_;intro _)|refine Tc ?_|exact Tz)
  rw[List.nil_append,List.append_assoc,List.append_assoc,← List.append_assoc (y6 _),← hnx] at hH5;exact WX.metI (i+1,s5,b5,n5) (hs:=⟨⟨by show i+1≤vs.length;omega,hH5⟩,by show vs.length - (i+1)<vs.length - i;omega⟩)
 ·have hie:i=Ps.length:=by omega
  rw[hie,List.take_length] at hH;refine WC.dF rfl Om ?_
  repeat (first|refine Tw ?_|(refine Tm ?_;intro _)|exact Tz)
  refine WO.acallR (hc:=cL gS _ s3 b3 n3 hH.held hH.s8 hH.sl hH.bl (by rw[hH.held.n];have:=hbl;unfold yV at this;omega)) (hR:=fun w1 hm=>Hs.here.seg hm) (k:=?_);have hout:(byC (hOf (ya s) Ps)).length=32:=by
   rw[zi];unfold hOf Sha.sum;rw[uF,uf rfl]
  have hfold:Sha.sum (tj (ya s) Ps.length++y6 Ps)=hOf (ya s) Ps:=rfl;rw[hfold]
  repeat (first|refine WO.stores (zG (vs:=byC (hOf (ya s) Ps)) (cs':=byC (hOf (ya s) Ps)) (hl:=hout) (h1:=ve _) (hc:=y4 (by rw[hout];rfl)) (hle:=by rw[hout];rfl)) ?_|refine Ta ?_|(refine Tm ?_;intro _)|refine Tc ?_|exact Tz)
  exact WX.aret1 (hr:=ub (vs:=byC (hOf (ya s) Ps)) (hc:=yh hout) (hl:=hout)) (hp:=rfl)
end Sx
end
end Go.Proofs.YtiiefkchpicncaaGreatDoor
