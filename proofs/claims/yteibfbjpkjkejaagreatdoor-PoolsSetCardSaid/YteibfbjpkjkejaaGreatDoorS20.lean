/- Part 20 of the proof. -/
import Derived.Test.YteibfbjpkjkejaaGreatDoorS19
import Derived.Test.YteibfbjpkjkejaaGreatDoorS15
set_option linter.unusedSimpArgs false
set_option linter.unusedVariables false
set_option maxHeartbeats 8000000
namespace Go.Proofs.YteibfbjpkjkejaaGreatDoor
section
open Go Go.RowKit Go.BigFrame
namespace Sx
attribute [local irreducible] DQ DQS WC WO WX wd
theorem ah {b:List Nat}:∀ q,∀ x∈Sha.takes Sha.H0 b q,x<4294967296
 | 0=>by simp only[Sha.takes];decide
 | q+1=>fS
structure Hd (m s buf:List Nat) (n:Nat):Prop where
 held:kw m s buf n
 s8:s.length=8
 sl:∀ x∈s,x<4294967296
 bl:∀ x∈buf,x<256
theorem Hd.new:Hd [] Sha.H0 (List.replicate 64 0) 0:=⟨kw.nil rfl,rfl,by decide,fun x hx=>by have:=List.eq_of_mem_replicate hx;omega⟩
theorem Hd.wr {m s buf X:List Nat} {n:Nat} (h:Hd m s buf n) (hX:∀ x∈X,x<256):Hd (m++X) (wr s buf n X).1 (wr s buf n X).2.1 (wr s buf n X).2.2:=by
 have hH:=kw.wr X.length (Nat.le_refl _) h.held;exact⟨hH,by rw[hH.s];exact uf rfl _,by rw[hH.s];exact ah _,aas X.length (Nat.le_refl _) h.bl hX⟩
theorem Hd.write {m s buf X:List Nat} {n:Nat} (h:Hd m s buf n) (hX:∀ x∈X,x<256) (hn:m.length+X.length≤1152921504606846976) (g c:Nat) (p:Option Addr) :
  ∃ s' b' n',Hd (m++X) s' b' n'∧FnM Tryz.prog 73 [pt g,.slice p X.length c] g 191 (vY s buf n) (vY s' b' n') (RdN g (.slice p X.length c) X.length (byC X)) (.int .i64 0) :=
 ⟨_,_,_,h.wr hX,im g c p s buf n X hX h.s8 h.sl h.held.len h.bl (by rw[h.held.n];exact hn)⟩
theorem abh (s:ByteArray):∀ x∈yj s,x<256:=by
 intro x hx;unfold yj at hx;obtain⟨b,_,rfl⟩:=List.mem_map.1 hx;exact b.toNat_lt
theorem yM (s:ByteArray):(yj s).length=s.size:=by simp[yj]
theorem k9 {X Y:List Nat} {b:Nat} (h:∀ x∈X,x<b) (k:∀ x∈Y,x<b):∀ x∈X++Y,x<b:=fun x hx=>(List.mem_append.1 hx).elim (h x) (k x)
theorem aB (s:ByteArray) (vs:List Value) (Ps:List (List Nat)) (B O C:Nat) (hP:∀ X∈Ps,∀ x∈X,x<256) (hb:(yS (yj s) Ps).length≤1152921504606840000) (hs:s.size≤274877906944) :
  Fn Tryz.prog 31 [.string s,.slice (some ⟨B,O,none⟩) vs.length C] (fun w=>Seg w B O vs∧ya vs Ps w) (Is (.agg (byC (hOf (yj s) Ps)).toArray)):=by
 have hsz:=yM s;have hbl:(yS (yj s) Ps).length=4+s.size+4+(yW Ps).length:=by unfold yS tw;simp only[List.length_append,zk,hsz]
 have hHd:tw (yj s) Ps.length=[]++([]++be 4 (yj s).length++yj s)++([]++be 4 Ps.length):=by simp[tw]
 refine Fn.enter Tryz.func31 rfl rfl rfl ?_;intro w hw;obtain⟨hw1,hw2⟩:=hw;have hN:=hw2.1;have hNs:Ps.length*4≤(yW Ps).length:=by
  clear hb hbl hHd hw2 hN hP
  induction Ps with
  | nil=>simp
  | cons X Ps ih=>simp only[yW,List.flatMap_cons,List.length_append,List.length_cons,zk] at ih ⊢;omega
 repeat (first|refine Tw ?_|(refine Tm ?_;intro _)|exact Tz)
 rename_i gO;refine WO.acallX (f:=72) (hc:=aN) (hR:=fun _ _=>trivial) (k:=fun x _=>?_);generalize x 0=gS
 repeat (first|refine Tw ?_|(refine Tm ?_;intro _)|exact Tz)
 refine WO.news (ab (by rfl) (by omega)) (fun x hx=>?_);obtain⟨hx1,hx2⟩:=hx;generalize x 0=gb at *;generalize x 1=cb at *;have hs' : (yj s).length≤274877906944:=by omega
 have hx1' : (yj s).length≤cb:=by omega
 rw[← hsz];have hPB:=iD [] (yj s) none (some ⟨gb,0,none⟩) 0 cb (by decide) hs';refine WO.acallL (hc:=hPB) (hR:=fun w1 hm=>⟨Rd.nil,(RdP.own hm Hs.here hx1' hx2).rd⟩) (k:=fun gp cp r h1 h2=>?_);refine WO.ndp (fun hnd=>?_);have hne:gp≠gS:=by simp at hnd;exact hnd.1.2.1
 clear hnd;have hXl:∀ x∈[]++be 4 (yj s).length++yj s,x<256:=k9 (k9 (by simp) tn) (abh s);obtain⟨s1,b1,n1,hH1,hW1⟩:=Hd.new.write hXl (by simp[zk];omega) gS cp (some ⟨gp,0,none⟩);refine WO.callM (hc:=hW1) rfl (by repeat (first|exact Rp.here|apply Rp.there)) (fun w1 hm=>RdN.own hm Hs.here hne h1 h2) (by decide) ?_ rfl rfl;have hcv:IntKind.u64.wrap ((vs.length:Nat):Int)=((vs.length:Nat):Int):=u64_in (by omega) (by omega);have hP4:=ij [] Ps.length 4 0 none (by decide) (by decide);rw[← hN] at hP4
 repeat (first|refine WO.does (zN rfl hcv) ?_|refine Ta ?_|(refine Tm ?_;intro _)|refine Tc ?_|exact Tz)
 refine WO.acallN (hc:=hP4) (hR:=fun w1 hm=>Rd.nil) (k:=fun g4=>?_);refine WO.ndp (fun hnd=>?_);have hne4:g4≠gS:=by simp at hnd;exact hnd.1.2.2.1
 clear hnd;have hXl4:∀ x∈[]++be 4 vs.length,x<256:=k9 (by simp) tn;obtain⟨s2,b2,n2,hH2,hW2⟩:=hH1.write hXl4 (by simp[zk];omega) gS ([]++be 4 vs.length).length (some ⟨g4,0,none⟩);refine WO.callM (hc:=hW2) rfl (by repeat (first|exact Rp.here|apply Rp.there)) (fun w1 hm=>RdN.own0 hm Hs.here hne4 (Nat.le_refl _) (by simp[zk])) (by decide) ?_ rfl rfl
 repeat (first|refine Tw ?_|(refine Tm ?_;intro _)|exact Tz)
 rw[hN,← hHd] at hH2;clear hW1 hW2 hH1 hP4 hPB hXl hXl4
 refine WC.loopI (σ:=Nat × List Nat × List Nat × Nat) (fun x=>x.1≤vs.length∧Hd (tw (yj s) Ps.length++yW (Ps.take x.1)) x.2.1 x.2.2.1 x.2.2.2)
  (fun x=>[(4,pt gO),(5,pt gS),(20,.slice (some ⟨B,O,none⟩) vs.length C),(21,.int .i64 (vs.length:Int)),(22,.int .i64 (x.1:Int))])
  (fun x=>[⟨gS,191,vY x.2.1 x.2.2.1 x.2.2.2⟩,⟨gO,60,List.replicate 32 (.int .u8 0)⟩]) (fun x=>vs.length - x.1) (0,s2,b2,n2) (fun x hx=>?_) ⟨Nat.zero_le _,by simpa [yW] using hH2⟩
 clear hH2;obtain⟨i,s3,b3,n3⟩:=x;obtain⟨hi,hH⟩:=hx;dsimp only at hi hH ⊢
 repeat (first|refine Tw ?_|(refine Tm ?_;intro _)|exact Tz)
 by_cases hlt:i<vs.length
 ·refine WC.dT rfl (by omega) ?_;obtain⟨v,hv⟩ : ∃ v,vs[i]?=some v:=⟨_,List.getElem?_eq_getElem hlt⟩;obtain⟨X,hX⟩ : ∃ X,Ps[i]?=some X:=⟨_,List.getElem?_eq_getElem (by omega)⟩;have hR:=hw2.2 i v X hv hX;have hXb:=hP X (List.mem_of_getElem? hX);have hle:=cX hX;have hle2:(tw (yj s) Ps.length++yW (Ps.take i)).length+4+X.length≤1152921504606840000:=by
   rw[List.length_append];unfold tw;simp only[List.length_append,zk,hsz];omega
  have hnx:=pK hX;have hcx:IntKind.u64.wrap ((X.length:Nat):Int)=((X.length:Nat):Int):=u64_in (by omega) (by omega);have hi1:IntKind.i64.wrap (((i:Nat):Int)+1)=((i+1:Nat):Int):=zr (by omega) (by omega) (by omega);have hP4:=ij [] X.length 4 0 none (by decide) (by decide);have hXl4:∀ x∈[]++be 4 X.length,x<256:=k9 (by simp) tn;have hRr:=hR;obtain⟨p,c,rfl,hc1,hc2,hpc⟩:=hR;have hvs:vs[O+i - O]?=some (.slice p X.length c):=by rw[Nat.add_sub_cancel_left];exact hv
  repeat (first|refine WO.does (zb (o':=O+i) rfl rfl hlt (by omega)) ?_|refine WO.does (zi (hs:=hw1) (hle:=Nat.le_add_right _ _) (hc:=hvs)) ?_|refine WO.does (zN rfl hcx) ?_|refine Ta ?_|(refine Tm ?_;intro _)|refine Tc ?_|exact Tz)
  refine WO.acallN (hc:=hP4) (hR:=fun w1 hm=>Rd.nil) (k:=fun g5=>?_);refine WO.ndp (fun hnd=>?_);have hne5:g5≠gS:=by simp at hnd;exact hnd.1.1
  clear hnd;obtain⟨s4,b4,n4,hH4,hW4⟩:=hH.write hXl4 (by simp only[List.nil_append,zk];omega) gS ([]++be 4 X.length).length (some ⟨g5,0,none⟩);refine WO.callM (hc:=hW4) rfl (by repeat (first|exact Rp.here|apply Rp.there)) (fun w1 hm=>RdN.own0 hm Hs.here hne5 (Nat.le_refl _) (by simp[zk])) (by decide) ?_ rfl rfl
  repeat (first|refine Tw ?_|(refine Tm ?_;intro _)|exact Tz)
  refine WO.mine (fun hmn=>?_);have hgS:w.heap.size≤gS:=(hmn _ (List.mem_cons_of_mem _ (List.mem_cons_self ..))).resolve_right (by simp);clear hmn;obtain⟨s5,b5,n5,hH5,hW5⟩:=hH4.write hXb (by simp only[List.nil_append,List.length_append,zk] at hle2 ⊢;omega) gS c p;refine WO.callM (hc:=hW5) rfl (by repeat (first|exact Rp.here|apply Rp.there)) (fun w1 hm=>hRr.rdN hgS hm) (by decide) ?_ rfl rfl
  repeat (first|refine WO.does (zl rfl rfl hi1) ?_|refine Ta ?_|(refine Tm ?_;intro _)|refine Tc ?_|exact Tz)
  rw[List.nil_append,List.append_assoc,List.append_assoc,← List.append_assoc (yW _),← hnx] at hH5;exact WX.metI (i+1,s5,b5,n5) (hs:=⟨⟨by show i+1≤vs.length;omega,hH5⟩,by show vs.length - (i+1)<vs.length - i;omega⟩)
 ·have hie:i=Ps.length:=by omega
  rw[hie,List.take_length] at hH;refine WC.dF rfl (by omega) ?_
  repeat (first|refine Tw ?_|(refine Tm ?_;intro _)|exact Tz)
  refine WO.acallR (hc:=fL gS _ s3 b3 n3 hH.held hH.s8 hH.sl hH.bl (by rw[hH.held.n];have:=hbl;unfold yS at this;omega)) (hR:=fun w1 hm=>Hs.here.seg hm) (k:=?_);have hout:(byC (hOf (yj s) Ps)).length=32:=by
   rw[zh];unfold hOf Sha.sum;rw[uj,uf rfl]
  have hfold:Sha.sum (tw (yj s) Ps.length++yW Ps)=hOf (yj s) Ps:=rfl;rw[hfold]
  repeat (first|refine WO.stores (zC (vs:=byC (hOf (yj s) Ps)) (cs':=byC (hOf (yj s) Ps)) (hl:=hout) (h1:=zM _) (hc:=z7 (by rw[hout];rfl)) (hle:=by rw[hout];rfl)) ?_|refine Ta ?_|(refine Tm ?_;intro _)|refine Tc ?_|exact Tz)
  exact WX.aret1 (hr:=uC (vs:=byC (hOf (yj s) Ps)) (hc:=zz hout) (hl:=hout)) (hp:=rfl)
end Sx
end
section
open Go Go.RowKit Go.BigFrame
namespace Sx
attribute [local irreducible] DQ DQS WC WO WX
def RdB (v:Value) (X:List Nat) (B:Nat) (w:World):Prop :=
 ∃ p c,v=.slice p X.length c∧X.length≤c∧c<9223372036854775808∧((p=none∧X=[])∨∃ b o,p=some ⟨b,o,none⟩∧b<B∧Seg w b o (byC X))
theorem RdB.mod {v:Value} {X:List Nat} {B:Nat} {w w' : World} {gs:List Nat} (h:RdB v X B w) (hm:Mod gs w w') (hg:∀ g∈gs,B≤g):RdB v X B w':=by
 obtain⟨p,c,rfl,h1,h2,h3⟩:=h;refine⟨p,c,rfl,h1,h2,h3.imp id (fun ⟨b,o,e,hb,hs⟩=>⟨b,o,e,hb,hs.mod hm (fun hbg=>by have:=hg b hbg;omega)⟩)⟩
theorem RdB.rdP {v:Value} {X:List Nat} {B:Nat} {w:World} (h:RdB v X B w) (hB:B≤w.heap.size):RdP v X w:=by
 obtain⟨p,c,rfl,h1,h2,h3⟩:=h;exact⟨p,c,rfl,h1,h2,h3.imp id (fun ⟨b,o,e,hb,hs⟩=>⟨b,o,e,by omega,hs⟩)⟩
def rI (vs:List Value) (Ps:List (List Nat)) (B:Nat) (w:World):Prop:=vs.length=Ps.length∧∀ (i:Nat) (v:Value) (X:List Nat),vs[i]?=some v→Ps[i]?=some X→RdB v X B w
theorem rI.mod {vs:List Value} {Ps:List (List Nat)} {B:Nat} {w w' : World} {gs:List Nat} (h:rI vs Ps B w) (hm:Mod gs w w') (hg:∀ g∈gs,B≤g):rI vs Ps B w':=⟨h.1,fun i v X h1 h2=>(h.2 i v X h1 h2).mod hm hg⟩
theorem rI.parts {vs:List Value} {Ps:List (List Nat)} {B:Nat} {w:World} (h:rI vs Ps B w) (hB:B≤w.heap.size):ya vs Ps w:=⟨h.1,fun i v X h1 h2=>(h.2 i v X h1 h2).rdP hB⟩
theorem ya.partsB {vs:List Value} {Ps:List (List Nat)} {w:World} (h:ya vs Ps w):rI vs Ps w.heap.size w:=h
theorem acr (s:List Nat) (Ps:List (List Nat)):(byC (hOf s Ps)).length=32:=by
 rw[zh];unfold hOf Sha.sum;rw[uj,uf rfl]
theorem vh (s:List Nat) (Ps:List (List Nat)):(hOf s Ps).length=32:=by
 unfold hOf Sha.sum;rw[uj,uf rfl]
theorem acl (s:List Nat):∀ x∈Sha.outs s,x<256:=by
 intro x hx;unfold Sha.outs at hx;obtain⟨y,_,hy⟩:=List.mem_flatMap.1 hx;simp only[List.mem_cons,List.not_mem_nil,or_false] at hy
 rcases hy with rfl|rfl|rfl|rfl<;>exact Nat.mod_lt _ (by omega)
theorem pM (s:List Nat) (Ps:List (List Nat)):∀ x∈hOf s Ps,x<256:=acl _
theorem tX (vs:List Value) (z y:Value):over (vs++[z]) vs.length [y]=vs++[y]:=by
 unfold over;rw[List.take_left,List.drop_of_length_le (by simp)];simp
def aff (vs:List Value) (cs:List Value):Prop:=∃ z,cs=vs++[z]
theorem adu (s:ByteArray) (vs:List Value) (Ps:List (List Nat)) (gR g4 g8 B k:Nat) (hP:∀ X∈Ps,∀ x∈X,x<256) (hk:k<256) (hb:(yS (yj s) Ps).length≤1152921504606830000) (hs:s.size≤274877906944) (h4:g4≠gR) (h8:g8≠gR) (hB:B≤gR) (hN:vs.length<1099511627776) :
  FnI Tryz.prog 130 [.int .u8 (k:Int),pt g4,pt g8] gR 95 (aff vs)
   (fun w=>Seg w g4 0 [.string s]∧Seg w g8 0 [.slice (some ⟨gR,0,none⟩) vs.length (vs.length+1)]∧rI vs Ps B w) (zj (beV (hOf (yj s) (Ps++[[k]])))):=by
 refine FnI.enter Tryz.func130 rfl rfl rfl ?_;rintro w cs ⟨z,rfl⟩ ⟨hw1,hw2,hw3⟩;have hbl:(yS (yj s) (Ps++[[k]])).length≤1152921504606840000:=by
  unfold yS tw at hb ⊢;rw[pc];simp only[List.length_append,zk,List.length_cons,List.length_nil] at hb ⊢;omega
 have hH:=fun g3=>aB s (vs++[.slice (some ⟨g3,0,none⟩) 1 1]) (Ps++[[k]]) gR 0 (vs.length+1) (fun X hX x hx=>by
  rcases List.mem_append.1 hX with hX|hX
  ·exact hP X hX x hx
  ·simp at hX;subst hX;simp at hx;omega) hbl hs
 simp only[List.length_append,List.length_cons,List.length_nil,Nat.zero_add] at hH;have hout:=acr (yj s) (Ps++[[k]]);have houtl:=vh (yj s) (Ps++[[k]]);have hlt:=pM (yj s) (Ps++[[k]]);have h4' : g4 ∉ [gR]:=by simpa using h4
 have h8' : g8 ∉ [gR]:=by simpa using h8
 generalize hO:hOf (yj s) (Ps++[[k]])=O at *
 repeat (first|refine Tw ?_|(refine Tm ?_;intro _)|exact Tz)
 rename_i gO;refine WC.allA (fun A hA=>?_)
 suffices hS511:∀ q3 q4 q7,A [(8,.string s),(9,.slice (some ⟨gR,0,none⟩) vs.length (vs.length+1)),(10,.int .u8 (k:Int)),(11,.slice (some ⟨q3,0,none⟩) 1 1),(12,.slice (some ⟨q4,0,none⟩) 1 1),(13,.slice (some ⟨gR,0,none⟩) (vs.length+1) (vs.length+1)),(14,.agg (byC O).toArray),(5,pt q7),(0,.int .u8 (k:Int)),(1,pt g4),(2,pt g8),(4,pt gO)] [⟨q3,5,[.int .u8 (k:Int)]⟩,⟨q4,95,[.slice (some ⟨q3,0,none⟩) 1 1]⟩,⟨q7,60,byC O⟩,⟨gR,95,vs++[.slice (some ⟨q3,0,none⟩) 1 1]⟩,⟨gO,24,[.int .u64 0,.int .u64 0,.int .u64 0,.int .u64 0]⟩] (bt 9 511) 0 by
  have hS255:∀ q3 q4 q7,A [(8,.string s),(9,.slice (some ⟨gR,0,none⟩) vs.length (vs.length+1)),(10,.int .u8 (k:Int)),(11,.slice (some ⟨q3,0,none⟩) 1 1),(12,.slice (some ⟨q4,0,none⟩) 1 1),(13,.slice (some ⟨gR,0,none⟩) (vs.length+1) (vs.length+1)),(14,.agg (byC O).toArray),(5,pt q7),(0,.int .u8 (k:Int)),(1,pt g4),(2,pt g8),(4,pt gO)] [⟨q3,5,[.int .u8 (k:Int)]⟩,⟨q4,95,[.slice (some ⟨q3,0,none⟩) 1 1]⟩,⟨q7,60,List.replicate 32 (.int .u8 0)⟩,⟨gR,95,vs++[.slice (some ⟨q3,0,none⟩) 1 1]⟩,⟨gO,24,[.int .u64 0,.int .u64 0,.int .u64 0,.int .u64 0]⟩] (bt 9 255) 1:=by
   intro q3 q4 q7;refine (hA _ _ _ _).2 (WA.step [8] (.cons ?_ .nil))
   ·refine WO.stores (zC (vs:=byC O) (cs':=byC O) (hl:=hout) (h1:=zM _) (hc:=z7 (by rw[hout];rfl)) (hle:=by rw[hout];rfl)) ?_;exact WA.go hA (hS511 q3 q4 q7)
  have hS127:∀ q3 q4,A [(8,.string s),(9,.slice (some ⟨gR,0,none⟩) vs.length (vs.length+1)),(10,.int .u8 (k:Int)),(11,.slice (some ⟨q3,0,none⟩) 1 1),(12,.slice (some ⟨q4,0,none⟩) 1 1),(13,.slice (some ⟨gR,0,none⟩) (vs.length+1) (vs.length+1)),(14,.agg (byC O).toArray),(0,.int .u8 (k:Int)),(1,pt g4),(2,pt g8),(4,pt gO)] [⟨q3,5,[.int .u8 (k:Int)]⟩,⟨q4,95,[.slice (some ⟨q3,0,none⟩) 1 1]⟩,⟨gR,95,vs++[.slice (some ⟨q3,0,none⟩) 1 1]⟩,⟨gO,24,[.int .u64 0,.int .u64 0,.int .u64 0,.int .u64 0]⟩] (bt 9 127) 2:=by
   intro q3 q4;refine (hA _ _ _ _).2 (WA.step [7] (.cons ?_ .nil))
   ·(refine WO.autoM (k:=?_);intro q7);exact WA.go hA (hS255 q3 q4 q7)
  have hS191:∀ q3 q4 q7,A [(8,.string s),(9,.slice (some ⟨gR,0,none⟩) vs.length (vs.length+1)),(10,.int .u8 (k:Int)),(11,.slice (some ⟨q3,0,none⟩) 1 1),(12,.slice (some ⟨q4,0,none⟩) 1 1),(13,.slice (some ⟨gR,0,none⟩) (vs.length+1) (vs.length+1)),(5,pt q7),(0,.int .u8 (k:Int)),(1,pt g4),(2,pt g8),(4,pt gO)] [⟨q3,5,[.int .u8 (k:Int)]⟩,⟨q4,95,[.slice (some ⟨q3,0,none⟩) 1 1]⟩,⟨q7,60,List.replicate 32 (.int .u8 0)⟩,⟨gR,95,vs++[.slice (some ⟨q3,0,none⟩) 1 1]⟩,⟨gO,24,[.int .u64 0,.int .u64 0,.int .u64 0,.int .u64 0]⟩] (bt 9 191) 2:=by
   intro q3 q4 q7;refine (hA _ _ _ _).2 (WA.step [6] (.cons ?_ .nil))
   ·refine WO.acallR (hc:=hH q3) (hR:=fun w1 hm=>⟨Hs.sg hm,ya.snoc (RdP.own0 (g:=q3) (X:=[k]) hm Hs.a (by simp) (by omega)) ((hw3.mod hm.mod (by simpa using hB)).parts (by have:=(hm.ok ⟨gR,_,_⟩ (Hs.mem Hs.a)).lt;simp only at this;omega))⟩) (k:=?_);exact WA.go hA (hS255 q3 q4 q7)
  have hS63:∀ q3 q4,A [(8,.string s),(9,.slice (some ⟨gR,0,none⟩) vs.length (vs.length+1)),(10,.int .u8 (k:Int)),(11,.slice (some ⟨q3,0,none⟩) 1 1),(12,.slice (some ⟨q4,0,none⟩) 1 1),(13,.slice (some ⟨gR,0,none⟩) (vs.length+1) (vs.length+1)),(0,.int .u8 (k:Int)),(1,pt g4),(2,pt g8),(4,pt gO)] [⟨q3,5,[.int .u8 (k:Int)]⟩,⟨q4,95,[.slice (some ⟨q3,0,none⟩) 1 1]⟩,⟨gR,95,vs++[.slice (some ⟨q3,0,none⟩) 1 1]⟩,⟨gO,24,[.int .u64 0,.int .u64 0,.int .u64 0,.int .u64 0]⟩] (bt 9 63) 3:=by
   intro q3 q4;refine (hA _ _ _ _).2 (WA.step [6,7] (.cons ?_ (.cons ?_ .nil)))
   ·refine WO.acallR (hc:=hH q3) (hR:=fun w1 hm=>⟨Hs.sg hm,ya.snoc (RdP.own0 (g:=q3) (X:=[k]) hm Hs.a (by simp) (by omega)) ((hw3.mod hm.mod (by simpa using hB)).parts (by have:=(hm.ok ⟨gR,_,_⟩ (Hs.mem Hs.a)).lt;simp only at this;omega))⟩) (k:=?_);exact WA.go hA (hS127 q3 q4)
   ·(refine WO.autoM (k:=?_);intro q7);exact WA.go hA (hS191 q3 q4 q7)
  have hS159:∀ q3 q4 q7,A [(8,.string s),(9,.slice (some ⟨gR,0,none⟩) vs.length (vs.length+1)),(10,.int .u8 (k:Int)),(11,.slice (some ⟨q3,0,none⟩) 1 1),(12,.slice (some ⟨q4,0,none⟩) 1 1),(5,pt q7),(0,.int .u8 (k:Int)),(1,pt g4),(2,pt g8),(4,pt gO)] [⟨q3,5,[.int .u8 (k:Int)]⟩,⟨q4,95,[.slice (some ⟨q3,0,none⟩) 1 1]⟩,⟨q7,60,List.replicate 32 (.int .u8 0)⟩,⟨gR,95,vs++[z]⟩,⟨gO,24,[.int .u64 0,.int .u64 0,.int .u64 0,.int .u64 0]⟩] (bt 9 159) 3:=by
   intro q3 q4 q7;refine (hA _ _ _ _).2 (WA.step [5] (.cons ?_ .nil))
   ·refine WO.both (sM (n:=1) (xs:=[.slice (some ⟨q3,0,none⟩) 1 1]) rfl rfl (Rds.own (g:=q4) (m:=1) Hs.a rfl) rfl (by omega) rfl (by repeat (first|exact Rp.here|apply Rp.there)) (tX vs z _) (by simp) (by decide) rfl) ?_;exact WA.go hA (hS191 q3 q4 q7)
  have hS190:∀ q3 q4 q7,A [(9,.slice (some ⟨gR,0,none⟩) vs.length (vs.length+1)),(10,.int .u8 (k:Int)),(11,.slice (some ⟨q3,0,none⟩) 1 1),(12,.slice (some ⟨q4,0,none⟩) 1 1),(13,.slice (some ⟨gR,0,none⟩) (vs.length+1) (vs.length+1)),(5,pt q7),(0,.int .u8 (k:Int)),(1,pt g4),(2,pt g8),(4,pt gO)] [⟨q3,5,[.int .u8 (k:Int)]⟩,⟨q4,95,[.slice (some ⟨q3,0,none⟩) 1 1]⟩,⟨q7,60,List.replicate 32 (.int .u8 0)⟩,⟨gR,95,vs++[.slice (some ⟨q3,0,none⟩) 1 1]⟩,⟨gO,24,[.int .u64 0,.int .u64 0,.int .u64 0,.int .u64 0]⟩] (bt 9 190) 3:=by
   intro q3 q4 q7;refine (hA _ _ _ _).2 (WA.step [0] (.cons ?_ .nil))
   ·refine WO.does (zi (hs:=hw1) (hb:=h4')) ?_;exact WA.go hA (hS191 q3 q4 q7)
  have hS31:∀ q3 q4,A [(8,.string s),(9,.slice (some ⟨gR,0,none⟩) vs.length (vs.length+1)),(10,.int .u8 (k:Int)),(11,.slice (some ⟨q3,0,none⟩) 1 1),(12,.slice (some ⟨q4,0,none⟩) 1 1),(0,.int .u8 (k:Int)),(1,pt g4),(2,pt g8),(4,pt gO)] [⟨q3,5,[.int .u8 (k:Int)]⟩,⟨q4,95,[.slice (some ⟨q3,0,none⟩) 1 1]⟩,⟨gR,95,vs++[z]⟩,⟨gO,24,[.int .u64 0,.int .u64 0,.int .u64 0,.int .u64 0]⟩] (bt 9 31) 4:=by
   intro q3 q4;refine (hA _ _ _ _).2 (WA.step [5,7] (.cons ?_ (.cons ?_ .nil)))
   ·refine WO.both (sM (n:=1) (xs:=[.slice (some ⟨q3,0,none⟩) 1 1]) rfl rfl (Rds.own (g:=q4) (m:=1) Hs.a rfl) rfl (by omega) rfl (by repeat (first|exact Rp.here|apply Rp.there)) (tX vs z _) (by simp) (by decide) rfl) ?_;exact WA.go hA (hS63 q3 q4)
   ·(refine WO.autoM (k:=?_);intro q7);exact WA.go hA (hS159 q3 q4 q7)
  have hS143:∀ q3 q7,A [(8,.string s),(9,.slice (some ⟨gR,0,none⟩) vs.length (vs.length+1)),(10,.int .u8 (k:Int)),(11,.slice (some ⟨q3,0,none⟩) 1 1),(5,pt q7),(0,.int .u8 (k:Int)),(1,pt g4),(2,pt g8),(4,pt gO)] [⟨q3,5,[.int .u8 (k:Int)]⟩,⟨q7,60,List.replicate 32 (.int .u8 0)⟩,⟨gR,95,vs++[z]⟩,⟨gO,24,[.int .u64 0,.int .u64 0,.int .u64 0,.int .u64 0]⟩] (bt 9 143) 4:=by
   intro q3 q7;refine (hA _ _ _ _).2 (WA.step [4] (.cons ?_ .nil))
   ·(refine WO.makes (ze (cs:=[.slice (some ⟨q3,0,none⟩) 1 1]) rfl (by decide) rfl) ?_;intro q4);exact WA.go hA (hS159 q3 q4 q7)
  have hS157:∀ q3 q4 q7,A [(8,.string s),(10,.int .u8 (k:Int)),(11,.slice (some ⟨q3,0,none⟩) 1 1),(12,.slice (some ⟨q4,0,none⟩) 1 1),(5,pt q7),(0,.int .u8 (k:Int)),(1,pt g4),(2,pt g8),(4,pt gO)] [⟨q3,5,[.int .u8 (k:Int)]⟩,⟨q4,95,[.slice (some ⟨q3,0,none⟩) 1 1]⟩,⟨q7,60,List.replicate 32 (.int .u8 0)⟩,⟨gR,95,vs++[z]⟩,⟨gO,24,[.int .u64 0,.int .u64 0,.int .u64 0,.int .u64 0]⟩] (bt 9 157) 4:=by
   intro q3 q4 q7;refine (hA _ _ _ _).2 (WA.step [1] (.cons ?_ .nil))
   ·refine WO.does (zi (hs:=hw2) (hb:=h8')) ?_;exact WA.go hA (hS159 q3 q4 q7)
  have hS62:∀ q3 q4,A [(9,.slice (some ⟨gR,0,none⟩) vs.length (vs.length+1)),(10,.int .u8 (k:Int)),(11,.slice (some ⟨q3,0,none⟩) 1 1),(12,.slice (some ⟨q4,0,none⟩) 1 1),(13,.slice (some ⟨gR,0,none⟩) (vs.length+1) (vs.length+1)),(0,.int .u8 (k:Int)),(1,pt g4),(2,pt g8),(4,pt gO)] [⟨q3,5,[.int .u8 (k:Int)]⟩,⟨q4,95,[.slice (some ⟨q3,0,none⟩) 1 1]⟩,⟨gR,95,vs++[.slice (some ⟨q3,0,none⟩) 1 1]⟩,⟨gO,24,[.int .u64 0,.int .u64 0,.int .u64 0,.int .u64 0]⟩] (bt 9 62) 4:=by
   intro q3 q4;refine (hA _ _ _ _).2 (WA.step [0,7] (.cons ?_ (.cons ?_ .nil)))
   ·refine WO.does (zi (hs:=hw1) (hb:=h4')) ?_;exact WA.go hA (hS63 q3 q4)
   ·(refine WO.autoM (k:=?_);intro q7);exact WA.go hA (hS190 q3 q4 q7)
  have hS158:∀ q3 q4 q7,A [(9,.slice (some ⟨gR,0,none⟩) vs.length (vs.length+1)),(10,.int .u8 (k:Int)),(11,.slice (some ⟨q3,0,none⟩) 1 1),(12,.slice (some ⟨q4,0,none⟩) 1 1),(5,pt q7),(0,.int .u8 (k:Int)),(1,pt g4),(2,pt g8),(4,pt gO)] [⟨q3,5,[.int .u8 (k:Int)]⟩,⟨q4,95,[.slice (some ⟨q3,0,none⟩) 1 1]⟩,⟨q7,60,List.replicate 32 (.int .u8 0)⟩,⟨gR,95,vs++[z]⟩,⟨gO,24,[.int .u64 0,.int .u64 0,.int .u64 0,.int .u64 0]⟩] (bt 9 158) 4:=by
   intro q3 q4 q7;refine (hA _ _ _ _).2 (WA.step [0,5] (.cons ?_ (.cons ?_ .nil)))
   ·refine WO.does (zi (hs:=hw1) (hb:=h4')) ?_;exact WA.go hA (hS159 q3 q4 q7)
   ·refine WO.both (sM (n:=1) (xs:=[.slice (some ⟨q3,0,none⟩) 1 1]) rfl rfl (Rds.own (g:=q4) (m:=1) Hs.a rfl) rfl (by omega) rfl (by repeat (first|exact Rp.here|apply Rp.there)) (tX vs z _) (by simp) (by decide) rfl) ?_;exact WA.go hA (hS190 q3 q4 q7)
  have hS15:∀ q3,A [(8,.string s),(9,.slice (some ⟨gR,0,none⟩) vs.length (vs.length+1)),(10,.int .u8 (k:Int)),(11,.slice (some ⟨q3,0,none⟩) 1 1),(0,.int .u8 (k:Int)),(1,pt g4),(2,pt g8),(4,pt gO)] [⟨q3,5,[.int .u8 (k:Int)]⟩,⟨gR,95,vs++[z]⟩,⟨gO,24,[.int .u64 0,.int .u64 0,.int .u64 0,.int .u64 0]⟩] (bt 9 15) 5:=by
   intro q3;refine (hA _ _ _ _).2 (WA.step [4,7] (.cons ?_ (.cons ?_ .nil)))
   ·(refine WO.makes (ze (cs:=[.slice (some ⟨q3,0,none⟩) 1 1]) rfl (by decide) rfl) ?_;intro q4);exact WA.go hA (hS31 q3 q4)
   ·(refine WO.autoM (k:=?_);intro q7);exact WA.go hA (hS143 q3 q7)
  have hS135:∀ q7,A [(8,.string s),(9,.slice (some ⟨gR,0,none⟩) vs.length (vs.length+1)),(10,.int .u8 (k:Int)),(5,pt q7),(0,.int .u8 (k:Int)),(1,pt g4),(2,pt g8),(4,pt gO)] [⟨q7,60,List.replicate 32 (.int .u8 0)⟩,⟨gR,95,vs++[z]⟩,⟨gO,24,[.int .u64 0,.int .u64 0,.int .u64 0,.int .u64 0]⟩] (bt 9 135) 5:=by
   intro q7;refine (hA _ _ _ _).2 (WA.step [3] (.cons ?_ .nil))
   ·(refine WO.makes (ze (cs:=[.int .u8 (k:Int)]) rfl (by decide) rfl) ?_;intro q3);exact WA.go hA (hS143 q3 q7)
  have hS29:∀ q3 q4,A [(8,.string s),(10,.int .u8 (k:Int)),(11,.slice (some ⟨q3,0,none⟩) 1 1),(12,.slice (some ⟨q4,0,none⟩) 1 1),(0,.int .u8 (k:Int)),(1,pt g4),(2,pt g8),(4,pt gO)] [⟨q3,5,[.int .u8 (k:Int)]⟩,⟨q4,95,[.slice (some ⟨q3,0,none⟩) 1 1]⟩,⟨gR,95,vs++[z]⟩,⟨gO,24,[.int .u64 0,.int .u64 0,.int .u64 0,.int .u64 0]⟩] (bt 9 29) 5:=by
   intro q3 q4;refine (hA _ _ _ _).2 (WA.step [1,7] (.cons ?_ (.cons ?_ .nil)))
   ·refine WO.does (zi (hs:=hw2) (hb:=h8')) ?_;exact WA.go hA (hS31 q3 q4)
   ·(refine WO.autoM (k:=?_);intro q7);exact WA.go hA (hS157 q3 q4 q7)
  have hS141:∀ q3 q7,A [(8,.string s),(10,.int .u8 (k:Int)),(11,.slice (some ⟨q3,0,none⟩) 1 1),(5,pt q7),(0,.int .u8 (k:Int)),(1,pt g4),(2,pt g8),(4,pt gO)] [⟨q3,5,[.int .u8 (k:Int)]⟩,⟨q7,60,List.replicate 32 (.int .u8 0)⟩,⟨gR,95,vs++[z]⟩,⟨gO,24,[.int .u64 0,.int .u64 0,.int .u64 0,.int .u64 0]⟩] (bt 9 141) 5:=by
   intro q3 q7;refine (hA _ _ _ _).2 (WA.step [1,4] (.cons ?_ (.cons ?_ .nil)))
   ·refine WO.does (zi (hs:=hw2) (hb:=h8')) ?_;exact WA.go hA (hS143 q3 q7)
   ·(refine WO.makes (ze (cs:=[.slice (some ⟨q3,0,none⟩) 1 1]) rfl (by decide) rfl) ?_;intro q4);exact WA.go hA (hS157 q3 q4 q7)
  have hS30:∀ q3 q4,A [(9,.slice (some ⟨gR,0,none⟩) vs.length (vs.length+1)),(10,.int .u8 (k:Int)),(11,.slice (some ⟨q3,0,none⟩) 1 1),(12,.slice (some ⟨q4,0,none⟩) 1 1),(0,.int .u8 (k:Int)),(1,pt g4),(2,pt g8),(4,pt gO)] [⟨q3,5,[.int .u8 (k:Int)]⟩,⟨q4,95,[.slice (some ⟨q3,0,none⟩) 1 1]⟩,⟨gR,95,vs++[z]⟩,⟨gO,24,[.int .u64 0,.int .u64 0,.int .u64 0,.int .u64 0]⟩] (bt 9 30) 5:=by
   intro q3 q4;refine (hA _ _ _ _).2 (WA.step [0,5,7] (.cons ?_ (.cons ?_ (.cons ?_ .nil))))
   ·refine WO.does (zi (hs:=hw1) (hb:=h4')) ?_;exact WA.go hA (hS31 q3 q4)
   ·refine WO.both (sM (n:=1) (xs:=[.slice (some ⟨q3,0,none⟩) 1 1]) rfl rfl (Rds.own (g:=q4) (m:=1) Hs.a rfl) rfl (by omega) rfl (by repeat (first|exact Rp.here|apply Rp.there)) (tX vs z _) (by simp) (by decide) rfl) ?_;exact WA.go hA (hS62 q3 q4)
   ·(refine WO.autoM (k:=?_);intro q7);exact WA.go hA (hS158 q3 q4 q7)
  have hS142:∀ q3 q7,A [(9,.slice (some ⟨gR,0,none⟩) vs.length (vs.length+1)),(10,.int .u8 (k:Int)),(11,.slice (some ⟨q3,0,none⟩) 1 1),(5,pt q7),(0,.int .u8 (k:Int)),(1,pt g4),(2,pt g8),(4,pt gO)] [⟨q3,5,[.int .u8 (k:Int)]⟩,⟨q7,60,List.replicate 32 (.int .u8 0)⟩,⟨gR,95,vs++[z]⟩,⟨gO,24,[.int .u64 0,.int .u64 0,.int .u64 0,.int .u64 0]⟩] (bt 9 142) 5:=by
   intro q3 q7;refine (hA _ _ _ _).2 (WA.step [0,4] (.cons ?_ (.cons ?_ .nil)))
   ·refine WO.does (zi (hs:=hw1) (hb:=h4')) ?_;exact WA.go hA (hS143 q3 q7)
   ·(refine WO.makes (ze (cs:=[.slice (some ⟨q3,0,none⟩) 1 1]) rfl (by decide) rfl) ?_;intro q4);exact WA.go hA (hS158 q3 q4 q7)
  have hS156:∀ q3 q4 q7,A [(10,.int .u8 (k:Int)),(11,.slice (some ⟨q3,0,none⟩) 1 1),(12,.slice (some ⟨q4,0,none⟩) 1 1),(5,pt q7),(0,.int .u8 (k:Int)),(1,pt g4),(2,pt g8),(4,pt gO)] [⟨q3,5,[.int .u8 (k:Int)]⟩,⟨q4,95,[.slice (some ⟨q3,0,none⟩) 1 1]⟩,⟨q7,60,List.replicate 32 (.int .u8 0)⟩,⟨gR,95,vs++[z]⟩,⟨gO,24,[.int .u64 0,.int .u64 0,.int .u64 0,.int .u64 0]⟩] (bt 9 156) 5:=by
   intro q3 q4 q7;refine (hA _ _ _ _).2 (WA.step [0,1] (.cons ?_ (.cons ?_ .nil)))
   ·refine WO.does (zi (hs:=hw1) (hb:=h4')) ?_;exact WA.go hA (hS157 q3 q4 q7)
   ·refine WO.does (zi (hs:=hw2) (hb:=h8')) ?_;exact WA.go hA (hS158 q3 q4 q7)
  have hS7:A [(8,.string s),(9,.slice (some ⟨gR,0,none⟩) vs.length (vs.length+1)),(10,.int .u8 (k:Int)),(0,.int .u8 (k:Int)),(1,pt g4),(2,pt g8),(4,pt gO)] [⟨gR,95,vs++[z]⟩,⟨gO,24,[.int .u64 0,.int .u64 0,.int .u64 0,.int .u64 0]⟩] (bt 9 7) 6:=by
   refine (hA _ _ _ _).2 (WA.step [3,7] (.cons ?_ (.cons ?_ .nil)))
   ·(refine WO.makes (ze (cs:=[.int .u8 (k:Int)]) rfl (by decide) rfl) ?_;intro q3);exact WA.go hA (hS15 q3)
   ·(refine WO.autoM (k:=?_);intro q7);exact WA.go hA (hS135 q7)
  have hS131:∀ q7,A [(8,.string s),(9,.slice (some ⟨gR,0,none⟩) vs.length (vs.length+1)),(5,pt q7),(0,.int .u8 (k:Int)),(1,pt g4),(2,pt g8),(4,pt gO)] [⟨q7,60,List.replicate 32 (.int .u8 0)⟩,⟨gR,95,vs++[z]⟩,⟨gO,24,[.int .u64 0,.int .u64 0,.int .u64 0,.int .u64 0]⟩] (bt 9 131) 6:=by
   intro q7;refine (hA _ _ _ _).2 (WA.step [2] (.cons ?_ .nil))
   ·refine Tw ?_;exact WA.go hA (hS135 q7)
  have hS13:∀ q3,A [(8,.string s),(10,.int .u8 (k:Int)),(11,.slice (some ⟨q3,0,none⟩) 1 1),(0,.int .u8 (k:Int)),(1,pt g4),(2,pt g8),(4,pt gO)] [⟨q3,5,[.int .u8 (k:Int)]⟩,⟨gR,95,vs++[z]⟩,⟨gO,24,[.int .u64 0,.int .u64 0,.int .u64 0,.int .u64 0]⟩] (bt 9 13) 6:=by
   intro q3;refine (hA _ _ _ _).2 (WA.step [1,4,7] (.cons ?_ (.cons ?_ (.cons ?_ .nil))))
   ·refine WO.does (zi (hs:=hw2) (hb:=h8')) ?_;exact WA.go hA (hS15 q3)
   ·(refine WO.makes (ze (cs:=[.slice (some ⟨q3,0,none⟩) 1 1]) rfl (by decide) rfl) ?_;intro q4);exact WA.go hA (hS29 q3 q4)
   ·(refine WO.autoM (k:=?_);intro q7);exact WA.go hA (hS141 q3 q7)
  have hS133:∀ q7,A [(8,.string s),(10,.int .u8 (k:Int)),(5,pt q7),(0,.int .u8 (k:Int)),(1,pt g4),(2,pt g8),(4,pt gO)] [⟨q7,60,List.replicate 32 (.int .u8 0)⟩,⟨gR,95,vs++[z]⟩,⟨gO,24,[.int .u64 0,.int .u64 0,.int .u64 0,.int .u64 0]⟩] (bt 9 133) 6:=by
   intro q7;refine (hA _ _ _ _).2 (WA.step [1,3] (.cons ?_ (.cons ?_ .nil)))
   ·refine WO.does (zi (hs:=hw2) (hb:=h8')) ?_;exact WA.go hA (hS135 q7)
   ·(refine WO.makes (ze (cs:=[.int .u8 (k:Int)]) rfl (by decide) rfl) ?_;intro q3);exact WA.go hA (hS141 q3 q7)
  have hS14:∀ q3,A [(9,.slice (some ⟨gR,0,none⟩) vs.length (vs.length+1)),(10,.int .u8 (k:Int)),(11,.slice (some ⟨q3,0,none⟩) 1 1),(0,.int .u8 (k:Int)),(1,pt g4),(2,pt g8),(4,pt gO)] [⟨q3,5,[.int .u8 (k:Int)]⟩,⟨gR,95,vs++[z]⟩,⟨gO,24,[.int .u64 0,.int .u64 0,.int .u64 0,.int .u64 0]⟩] (bt 9 14) 6:=by
   intro q3;refine (hA _ _ _ _).2 (WA.step [0,4,7] (.cons ?_ (.cons ?_ (.cons ?_ .nil))))
   ·refine WO.does (zi (hs:=hw1) (hb:=h4')) ?_;exact WA.go hA (hS15 q3)
   ·(refine WO.makes (ze (cs:=[.slice (some ⟨q3,0,none⟩) 1 1]) rfl (by decide) rfl) ?_;intro q4);exact WA.go hA (hS30 q3 q4)
   ·(refine WO.autoM (k:=?_);intro q7);exact WA.go hA (hS142 q3 q7)
  have hS134:∀ q7,A [(9,.slice (some ⟨gR,0,none⟩) vs.length (vs.length+1)),(10,.int .u8 (k:Int)),(5,pt q7),(0,.int .u8 (k:Int)),(1,pt g4),(2,pt g8),(4,pt gO)] [⟨q7,60,List.replicate 32 (.int .u8 0)⟩,⟨gR,95,vs++[z]⟩,⟨gO,24,[.int .u64 0,.int .u64 0,.int .u64 0,.int .u64 0]⟩] (bt 9 134) 6:=by
   intro q7;refine (hA _ _ _ _).2 (WA.step [0,3] (.cons ?_ (.cons ?_ .nil)))
   ·refine WO.does (zi (hs:=hw1) (hb:=h4')) ?_;exact WA.go hA (hS135 q7)
   ·(refine WO.makes (ze (cs:=[.int .u8 (k:Int)]) rfl (by decide) rfl) ?_;intro q3);exact WA.go hA (hS142 q3 q7)
  have hS28:∀ q3 q4,A [(10,.int .u8 (k:Int)),(11,.slice (some ⟨q3,0,none⟩) 1 1),(12,.slice (some ⟨q4,0,none⟩) 1 1),(0,.int .u8 (k:Int)),(1,pt g4),(2,pt g8),(4,pt gO)] [⟨q3,5,[.int .u8 (k:Int)]⟩,⟨q4,95,[.slice (some ⟨q3,0,none⟩) 1 1]⟩,⟨gR,95,vs++[z]⟩,⟨gO,24,[.int .u64 0,.int .u64 0,.int .u64 0,.int .u64 0]⟩] (bt 9 28) 6:=by
   intro q3 q4;refine (hA _ _ _ _).2 (WA.step [0,1,7] (.cons ?_ (.cons ?_ (.cons ?_ .nil))))
   ·refine WO.does (zi (hs:=hw1) (hb:=h4')) ?_;exact WA.go hA (hS29 q3 q4)
   ·refine WO.does (zi (hs:=hw2) (hb:=h8')) ?_;exact WA.go hA (hS30 q3 q4)
   ·(refine WO.autoM (k:=?_);intro q7);exact WA.go hA (hS156 q3 q4 q7)
  have hS140:∀ q3 q7,A [(10,.int .u8 (k:Int)),(11,.slice (some ⟨q3,0,none⟩) 1 1),(5,pt q7),(0,.int .u8 (k:Int)),(1,pt g4),(2,pt g8),(4,pt gO)] [⟨q3,5,[.int .u8 (k:Int)]⟩,⟨q7,60,List.replicate 32 (.int .u8 0)⟩,⟨gR,95,vs++[z]⟩,⟨gO,24,[.int .u64 0,.int .u64 0,.int .u64 0,.int .u64 0]⟩] (bt 9 140) 6:=by
   intro q3 q7;refine (hA _ _ _ _).2 (WA.step [0,1,4] (.cons ?_ (.cons ?_ (.cons ?_ .nil))))
   ·refine WO.does (zi (hs:=hw1) (hb:=h4')) ?_;exact WA.go hA (hS141 q3 q7)
   ·refine WO.does (zi (hs:=hw2) (hb:=h8')) ?_;exact WA.go hA (hS142 q3 q7)
   ·(refine WO.makes (ze (cs:=[.slice (some ⟨q3,0,none⟩) 1 1]) rfl (by decide) rfl) ?_;intro q4);exact WA.go hA (hS156 q3 q4 q7)
  have hS3:A [(8,.string s),(9,.slice (some ⟨gR,0,none⟩) vs.length (vs.length+1)),(0,.int .u8 (k:Int)),(1,pt g4),(2,pt g8),(4,pt gO)] [⟨gR,95,vs++[z]⟩,⟨gO,24,[.int .u64 0,.int .u64 0,.int .u64 0,.int .u64 0]⟩] (bt 9 3) 7:=by
   refine (hA _ _ _ _).2 (WA.step [2,7] (.cons ?_ (.cons ?_ .nil)))
   ·refine Tw ?_;exact WA.go hA (hS7)
   ·(refine WO.autoM (k:=?_);intro q7);exact WA.go hA (hS131 q7)
  have hS5:A [(8,.string s),(10,.int .u8 (k:Int)),(0,.int .u8 (k:Int)),(1,pt g4),(2,pt g8),(4,pt gO)] [⟨gR,95,vs++[z]⟩,⟨gO,24,[.int .u64 0,.int .u64 0,.int .u64 0,.int .u64 0]⟩] (bt 9 5) 7:=by
   refine (hA _ _ _ _).2 (WA.step [1,3,7] (.cons ?_ (.cons ?_ (.cons ?_ .nil))))
   ·refine WO.does (zi (hs:=hw2) (hb:=h8')) ?_;exact WA.go hA (hS7)
   ·(refine WO.makes (ze (cs:=[.int .u8 (k:Int)]) rfl (by decide) rfl) ?_;intro q3);exact WA.go hA (hS13 q3)
   ·(refine WO.autoM (k:=?_);intro q7);exact WA.go hA (hS133 q7)
  have hS129:∀ q7,A [(8,.string s),(5,pt q7),(0,.int .u8 (k:Int)),(1,pt g4),(2,pt g8),(4,pt gO)] [⟨q7,60,List.replicate 32 (.int .u8 0)⟩,⟨gR,95,vs++[z]⟩,⟨gO,24,[.int .u64 0,.int .u64 0,.int .u64 0,.int .u64 0]⟩] (bt 9 129) 7:=by
   intro q7;refine (hA _ _ _ _).2 (WA.step [1,2] (.cons ?_ (.cons ?_ .nil)))
   ·refine WO.does (zi (hs:=hw2) (hb:=h8')) ?_;exact WA.go hA (hS131 q7)
   ·refine Tw ?_;exact WA.go hA (hS133 q7)
  have hS6:A [(9,.slice (some ⟨gR,0,none⟩) vs.length (vs.length+1)),(10,.int .u8 (k:Int)),(0,.int .u8 (k:Int)),(1,pt g4),(2,pt g8),(4,pt gO)] [⟨gR,95,vs++[z]⟩,⟨gO,24,[.int .u64 0,.int .u64 0,.int .u64 0,.int .u64 0]⟩] (bt 9 6) 7:=by
   refine (hA _ _ _ _).2 (WA.step [0,3,7] (.cons ?_ (.cons ?_ (.cons ?_ .nil))))
   ·refine WO.does (zi (hs:=hw1) (hb:=h4')) ?_;exact WA.go hA (hS7)
   ·(refine WO.makes (ze (cs:=[.int .u8 (k:Int)]) rfl (by decide) rfl) ?_;intro q3);exact WA.go hA (hS14 q3)
   ·(refine WO.autoM (k:=?_);intro q7);exact WA.go hA (hS134 q7)
  have hS130:∀ q7,A [(9,.slice (some ⟨gR,0,none⟩) vs.length (vs.length+1)),(5,pt q7),(0,.int .u8 (k:Int)),(1,pt g4),(2,pt g8),(4,pt gO)] [⟨q7,60,List.replicate 32 (.int .u8 0)⟩,⟨gR,95,vs++[z]⟩,⟨gO,24,[.int .u64 0,.int .u64 0,.int .u64 0,.int .u64 0]⟩] (bt 9 130) 7:=by
   intro q7;refine (hA _ _ _ _).2 (WA.step [0,2] (.cons ?_ (.cons ?_ .nil)))
   ·refine WO.does (zi (hs:=hw1) (hb:=h4')) ?_;exact WA.go hA (hS131 q7)
   ·refine Tw ?_;exact WA.go hA (hS134 q7)
  have hS12:∀ q3,A [(10,.int .u8 (k:Int)),(11,.slice (some ⟨q3,0,none⟩) 1 1),(0,.int .u8 (k:Int)),(1,pt g4),(2,pt g8),(4,pt gO)] [⟨q3,5,[.int .u8 (k:Int)]⟩,⟨gR,95,vs++[z]⟩,⟨gO,24,[.int .u64 0,.int .u64 0,.int .u64 0,.int .u64 0]⟩] (bt 9 12) 7:=by
   intro q3;refine (hA _ _ _ _).2 (WA.step [0,1,4,7] (.cons ?_ (.cons ?_ (.cons ?_ (.cons ?_ .nil)))))
   ·refine WO.does (zi (hs:=hw1) (hb:=h4')) ?_;exact WA.go hA (hS13 q3)
   ·refine WO.does (zi (hs:=hw2) (hb:=h8')) ?_;exact WA.go hA (hS14 q3)
   ·(refine WO.makes (ze (cs:=[.slice (some ⟨q3,0,none⟩) 1 1]) rfl (by decide) rfl) ?_;intro q4);exact WA.go hA (hS28 q3 q4)
   ·(refine WO.autoM (k:=?_);intro q7);exact WA.go hA (hS140 q3 q7)
  have hS132:∀ q7,A [(10,.int .u8 (k:Int)),(5,pt q7),(0,.int .u8 (k:Int)),(1,pt g4),(2,pt g8),(4,pt gO)] [⟨q7,60,List.replicate 32 (.int .u8 0)⟩,⟨gR,95,vs++[z]⟩,⟨gO,24,[.int .u64 0,.int .u64 0,.int .u64 0,.int .u64 0]⟩] (bt 9 132) 7:=by
   intro q7;refine (hA _ _ _ _).2 (WA.step [0,1,3] (.cons ?_ (.cons ?_ (.cons ?_ .nil))))
   ·refine WO.does (zi (hs:=hw1) (hb:=h4')) ?_;exact WA.go hA (hS133 q7)
   ·refine WO.does (zi (hs:=hw2) (hb:=h8')) ?_;exact WA.go hA (hS134 q7)
   ·(refine WO.makes (ze (cs:=[.int .u8 (k:Int)]) rfl (by decide) rfl) ?_;intro q3);exact WA.go hA (hS140 q3 q7)
  have hS1:A [(8,.string s),(0,.int .u8 (k:Int)),(1,pt g4),(2,pt g8),(4,pt gO)] [⟨gR,95,vs++[z]⟩,⟨gO,24,[.int .u64 0,.int .u64 0,.int .u64 0,.int .u64 0]⟩] (bt 9 1) 8:=by
   refine (hA _ _ _ _).2 (WA.step [1,2,7] (.cons ?_ (.cons ?_ (.cons ?_ .nil))))
   ·refine WO.does (zi (hs:=hw2) (hb:=h8')) ?_;exact WA.go hA (hS3)
   ·refine Tw ?_;exact WA.go hA (hS5)
   ·(refine WO.autoM (k:=?_);intro q7);exact WA.go hA (hS129 q7)
  have hS2:A [(9,.slice (some ⟨gR,0,none⟩) vs.length (vs.length+1)),(0,.int .u8 (k:Int)),(1,pt g4),(2,pt g8),(4,pt gO)] [⟨gR,95,vs++[z]⟩,⟨gO,24,[.int .u64 0,.int .u64 0,.int .u64 0,.int .u64 0]⟩] (bt 9 2) 8:=by
   refine (hA _ _ _ _).2 (WA.step [0,2,7] (.cons ?_ (.cons ?_ (.cons ?_ .nil))))
   ·refine WO.does (zi (hs:=hw1) (hb:=h4')) ?_;exact WA.go hA (hS3)
   ·refine Tw ?_;exact WA.go hA (hS6)
   ·(refine WO.autoM (k:=?_);intro q7);exact WA.go hA (hS130 q7)
  have hS4:A [(10,.int .u8 (k:Int)),(0,.int .u8 (k:Int)),(1,pt g4),(2,pt g8),(4,pt gO)] [⟨gR,95,vs++[z]⟩,⟨gO,24,[.int .u64 0,.int .u64 0,.int .u64 0,.int .u64 0]⟩] (bt 9 4) 8:=by
   refine (hA _ _ _ _).2 (WA.step [0,1,3,7] (.cons ?_ (.cons ?_ (.cons ?_ (.cons ?_ .nil)))))
   ·refine WO.does (zi (hs:=hw1) (hb:=h4')) ?_;exact WA.go hA (hS5)
   ·refine WO.does (zi (hs:=hw2) (hb:=h8')) ?_;exact WA.go hA (hS6)
   ·(refine WO.makes (ze (cs:=[.int .u8 (k:Int)]) rfl (by decide) rfl) ?_;intro q3);exact WA.go hA (hS12 q3)
   ·(refine WO.autoM (k:=?_);intro q7);exact WA.go hA (hS132 q7)
  have hS128:∀ q7,A [(5,pt q7),(0,.int .u8 (k:Int)),(1,pt g4),(2,pt g8),(4,pt gO)] [⟨q7,60,List.replicate 32 (.int .u8 0)⟩,⟨gR,95,vs++[z]⟩,⟨gO,24,[.int .u64 0,.int .u64 0,.int .u64 0,.int .u64 0]⟩] (bt 9 128) 8:=by
   intro q7;refine (hA _ _ _ _).2 (WA.step [0,1,2] (.cons ?_ (.cons ?_ (.cons ?_ .nil))))
   ·refine WO.does (zi (hs:=hw1) (hb:=h4')) ?_;exact WA.go hA (hS129 q7)
   ·refine WO.does (zi (hs:=hw2) (hb:=h8')) ?_;exact WA.go hA (hS130 q7)
   ·refine Tw ?_;exact WA.go hA (hS132 q7)
  have hS0:A [(0,.int .u8 (k:Int)),(1,pt g4),(2,pt g8),(4,pt gO)] [⟨gR,95,vs++[z]⟩,⟨gO,24,[.int .u64 0,.int .u64 0,.int .u64 0,.int .u64 0]⟩] (bt 9 0) 9:=by
   refine (hA _ _ _ _).2 (WA.step [0,1,2,7] (.cons ?_ (.cons ?_ (.cons ?_ (.cons ?_ .nil)))))
   ·refine WO.does (zi (hs:=hw1) (hb:=h4')) ?_;exact WA.go hA (hS1)
   ·refine WO.does (zi (hs:=hw2) (hb:=h8')) ?_;exact WA.go hA (hS2)
   ·refine Tw ?_;exact WA.go hA (hS4)
   ·(refine WO.autoM (k:=?_);intro q7);exact WA.go hA (hS128 q7)
  exact (hA _ _ _ _).2 (WA.less _ _ ((hA _ _ _ _).1 hS0))
 intro q3 q4 q7;refine (hA _ _ _ _).2 (WA.done ?_);have hGL:=gk O q7 0 hlt houtl
 repeat (first|refine Ta ?_|(refine Tm ?_;intro _)|refine WO.does (vS rfl) ?_|refine WO.acallR (hc:=hGL) (hR:=fun w1 hm=>Hs.sg hm) (k:=?_)|refine Tc ?_|exact Tz)
 exact WX.retI (aca rfl uC) Hs.a ⟨_,rfl⟩
end Sx
end
end Go.Proofs.YteibfbjpkjkejaaGreatDoor
