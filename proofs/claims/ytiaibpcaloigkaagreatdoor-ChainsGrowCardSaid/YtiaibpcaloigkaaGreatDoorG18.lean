/- Part 18 of the proof. -/
import Derived.Test.YtiaibpcaloigkaaGreatDoorG15
import Derived.Test.YtiaibpcaloigkaaGreatDoorG16
set_option linter.unusedSimpArgs false
set_option linter.unusedVariables false
set_option maxHeartbeats 8000000
namespace Go.Proofs.YtiaibpcaloigkaaGreatDoor
section
open Go Go.RowKit Go.BigFrame
namespace Sx
attribute [local irreducible] DQ WC WO WX wd
theorem aaJ {b:LN}:∀ q,∀ x∈Sha.takes Sha.H0 b q,x<4294967296
 | 0=>by simp only[Sha.takes];decide
 | q+1=>bU
structure Hd (m s buf:LN) (n:Nat):Prop where
 held:j8 m s buf n
 s8:s.length=8
 sl:∀ x∈s,x<4294967296
 bl:∀ x∈buf,x<256
theorem Hd.new:Hd [] Sha.H0 (List.replicate 64 0) 0:=⟨j8.nil rfl,rfl,by decide,fun x hx=>by have:=List.eq_of_mem_replicate hx;omega⟩
theorem Hd.wr {m s buf X:LN} {n:Nat} (h:Hd m s buf n) (hX:∀ x∈X,x<256):Hd (m++X) (wr s buf n X).1 (wr s buf n X).2.1 (wr s buf n X).2.2:=by
 have hH:=j8.wr X.length (Nat.le_refl _) h.held;exact⟨hH,by rw[hH.s];exact uq rfl _,by rw[hH.s];exact aaJ _,acD X.length (Nat.le_refl _) h.bl hX⟩
theorem Hd.write {m s buf X:LN} {n:Nat} (h:Hd m s buf n) (hX:∀ x∈X,x<256) (hn:m.length+X.length≤1152921504606846976) (g c:Nat) (p:Option Addr) :
  ∃ s' b' n',Hd (m++X) s' b' n'∧FnM Tryz.prog 105 [pt g,.slice p X.length c] g 279 (uB s buf n) (uB s' b' n') (RdN g (.slice p X.length c) X.length (byC X)) (.int .i64 0) :=
 ⟨_,_,_,h.wr hX,fc g c p s buf n X hX h.s8 h.sl h.held.len h.bl (by rw[h.held.n];exact hn)⟩
theorem acQ (s:ByteArray):∀ x∈zN s,x<256:=by
 intro x hx;unfold zN at hx;obtain⟨b,_,rfl⟩:=List.mem_map.1 hx;exact b.toNat_lt
theorem yb (s:ByteArray):(zN s).length=s.size:=by simp[zN]
theorem iu {X Y:LN} {b:Nat} (h:∀ x∈X,x<b) (k:∀ x∈Y,x<b):∀ x∈X++Y,x<b:=fun x hx=>(List.mem_append.1 hx).elim (h x) (k x)
theorem lI (s:ByteArray) (vs:LV) (Ps:List (List Nat)) (B O C:Nat) (hP:∀ X∈Ps,∀ x∈X,x<256) (hb:(yG (zN s) Ps).length≤1152921504606840000) (hs:s.size≤274877906944) :
  Fn Tryz.prog 45 [.string s,.slice (some ⟨B,O,none⟩) vs.length C] (fun w=>Seg w B O vs∧z6 vs Ps w) (Is (.agg (byC (hOf (zN s) Ps)).toArray)):=by
 have hsz:=yb s;have hbl:(yG (zN s) Ps).length=4+s.size+4+(yM Ps).length:=by unfold yG uV;simp only[List.length_append,zj,hsz]
 have hHd:uV (zN s) Ps.length=[]++([]++be 4 (zN s).length++zN s)++([]++be 4 Ps.length):=by simp[uV]
 refine Fn.enter Tryz.func45 rfl rfl rfl ?_;intro w hw;obtain⟨hw1,hw2⟩:=hw;have hN:=hw2.1;have hNs:Ps.length*4≤(yM Ps).length:=by
  clear hb hbl hHd hw2 hN hP
  induction Ps with
  | nil=>simp
  | cons X Ps ih=>simp only[yM,List.flatMap_cons,List.length_append,List.length_cons,zj] at ih ⊢;omega
 repeat (first|refine Tk ?_|intro _|exact Tz)
 rename_i gO;refine WO.acallX (f:=104) (hc:=aL) (hR:=fun _ _=>trivial) (k:=fun x _=>?_);generalize x 0=gS
 repeat (first|refine Tk ?_|intro _|exact Tz)
 refine WO.news (aaA (by rfl) Om) (fun x hx=>?_);obtain⟨hx1,hx2⟩:=hx;generalize x 0=gb at *;generalize x 1=cb at *;have hs' : (zN s).length≤274877906944:=by omega
 have hx1' : (zN s).length≤cb:=by omega
 rw[← hsz];have hPB:=iH [] (zN s) none (some ⟨gb,0,none⟩) 0 cb Dtt hs';refine WO.acallL (hc:=hPB) (hR:=fun w1 hm=>⟨Rd.nil,(RdP.own hm Hs.here hx1' hx2).rd⟩) (k:=fun gp cp r h1 h2=>?_);refine WO.ndp (fun hnd=>?_);have hne:gp≠gS:=by simp at hnd;exact hnd.1.2.1
 clear hnd;have hXl:∀ x∈[]++be 4 (zN s).length++zN s,x<256:=iu (iu Sm yZ) (acQ s);obtain⟨s1,b1,n1,hH1,hW1⟩:=Hd.new.write hXl (by simp[zj];omega) gS cp (some ⟨gp,0,none⟩);refine WO.callM (hc:=hW1) rfl (by repeat (first|exact Rp.here|apply Rp.there)) (fun w1 hm=>RdN.own hm Hs.here hne h1 h2) Dtt ?_ rfl rfl;have hcv:IntKind.u64.wrap ((vs.length:Nat):Int)=((vs.length:Nat):Int):=u64_in Om Om;have hP4:=nG [] Ps.length 4 0 none Dtt Dtt;rw[← hN] at hP4
 repeat (first|refine WO.does (zr rfl hcv) ?_|refine Tj ?_|intro _|refine Tc ?_|exact Tz)
 refine WO.acallN (hc:=hP4) (hR:=fun w1 hm=>Rd.nil) (k:=fun g4=>?_);refine WO.ndp (fun hnd=>?_);have hne4:g4≠gS:=by simp at hnd;exact hnd.1.2.2.1
 clear hnd;have hXl4:∀ x∈[]++be 4 vs.length,x<256:=iu Sm yZ;obtain⟨s2,b2,n2,hH2,hW2⟩:=hH1.write hXl4 (by simp[zj];omega) gS ([]++be 4 vs.length).length (some ⟨g4,0,none⟩);refine WO.callM (hc:=hW2) rfl (by repeat (first|exact Rp.here|apply Rp.there)) (fun w1 hm=>RdN.own0 hm Hs.here hne4 (Nat.le_refl _) (by simp[zj])) Dtt ?_ rfl rfl
 repeat (first|refine Tk ?_|intro _|exact Tz)
 rw[hN,← hHd] at hH2;clear hW1 hW2 hH1 hP4 hPB hXl hXl4
 refine WC.loopI (σ:=Nat × List Nat × List Nat × Nat) (fun x=>x.1≤vs.length∧Hd (uV (zN s) Ps.length++yM (Ps.take x.1)) x.2.1 x.2.2.1 x.2.2.2)
  (fun x=>[(4,pt gO),(5,pt gS),(20,.slice (some ⟨B,O,none⟩) vs.length C),(21,.int .i64 (vs.length:Int)),(22,.int .i64 (x.1:Int))])
  (fun x=>[⟨gS,279,uB x.2.1 x.2.2.1 x.2.2.2⟩,⟨gO,70,List.replicate 32 (.int .u8 0)⟩]) (fun x=>vs.length - x.1) (0,s2,b2,n2) (fun x hx=>?_) ⟨Nat.zero_le _,by simpa [yM] using hH2⟩
 clear hH2;obtain⟨i,s3,b3,n3⟩:=x;obtain⟨hi,hH⟩:=hx;dsimp only at hi hH ⊢
 repeat (first|refine Tk ?_|intro _|exact Tz)
 by_cases hlt:i<vs.length
 ·refine WC.dT rfl Om ?_;obtain⟨v,hv⟩ : ∃ v,vs[i]?=some v:=⟨_,List.getElem?_eq_getElem hlt⟩;obtain⟨X,hX⟩ : ∃ X,Ps[i]?=some X:=⟨_,List.getElem?_eq_getElem Om⟩;have hR:=hw2.2 i v X hv hX;have hXb:=hP X (List.mem_of_getElem? hX);have hle:=aba hX;have hle2:(uV (zN s) Ps.length++yM (Ps.take i)).length+4+X.length≤1152921504606840000:=by
   rw[List.length_append];unfold uV;simp only[List.length_append,zj,hsz];omega
  have hnx:=qM hX;have hcx:IntKind.u64.wrap ((X.length:Nat):Int)=((X.length:Nat):Int):=u64_in Om Om;have hi1:IntKind.i64.wrap (((i:Nat):Int)+1)=((i+1:Nat):Int):=zl Om Om Om;have hP4:=nG [] X.length 4 0 none Dtt Dtt;have hXl4:∀ x∈[]++be 4 X.length,x<256:=iu Sm yZ;have hRr:=hR;obtain⟨p,c,rfl,hc1,hc2,hpc⟩:=hR;have hvs:vs[O+i - O]?=some (.slice p X.length c):=by rw[Nat.add_sub_cancel_left];exact hv
  repeat (first|refine WO.does (zb (o':=O+i) rfl rfl hlt Om) ?_|refine WO.does (zm (hs:=hw1) (hle:=Nat.le_add_right _ _) (hc:=hvs)) ?_|refine WO.does (zr rfl hcx) ?_|refine Tj ?_|intro _|refine Tc ?_|exact Tz)
  refine WO.acallN (hc:=hP4) (hR:=fun w1 hm=>Rd.nil) (k:=fun g5=>?_);refine WO.ndp (fun hnd=>?_);have hne5:g5≠gS:=by simp at hnd;exact hnd.1.1
  clear hnd;obtain⟨s4,b4,n4,hH4,hW4⟩:=hH.write hXl4 (by simp only[List.nil_append,zj];omega) gS ([]++be 4 X.length).length (some ⟨g5,0,none⟩);refine WO.callM (hc:=hW4) rfl (by repeat (first|exact Rp.here|apply Rp.there)) (fun w1 hm=>RdN.own0 hm Hs.here hne5 (Nat.le_refl _) (by simp[zj])) Dtt ?_ rfl rfl
  repeat (first|refine Tk ?_|intro _|exact Tz)
  refine WO.mine (fun hmn=>?_);have hgS:w.heap.size≤gS:=(hmn _ (List.mem_cons_of_mem _ (List.mem_cons_self ..))).resolve_right Sm;clear hmn;obtain⟨s5,b5,n5,hH5,hW5⟩:=hH4.write hXb (by simp only[List.nil_append,List.length_append,zj] at hle2 ⊢;omega) gS c p;refine WO.callM (hc:=hW5) rfl (by repeat (first|exact Rp.here|apply Rp.there)) (fun w1 hm=>hRr.rdN hgS hm) Dtt ?_ rfl rfl
  repeat (first|refine WO.does (zi rfl rfl hi1) ?_|refine Tj ?_|intro _|refine Tc ?_|exact Tz)
  rw[List.nil_append,List.append_assoc,List.append_assoc,← List.append_assoc (yM _),← hnx] at hH5;exact WX.metI (i+1,s5,b5,n5) (hs:=⟨⟨by show i+1≤vs.length;omega,hH5⟩,by show vs.length - (i+1)<vs.length - i;omega⟩)
 ·have hie:i=Ps.length:=by omega
  rw[hie,List.take_length] at hH;refine WC.dF rfl Om ?_
  repeat (first|refine Tk ?_|intro _|exact Tz)
  refine WO.acallR (hc:=dz gS _ s3 b3 n3 hH.held hH.s8 hH.sl hH.bl (by rw[hH.held.n];have:=hbl;unfold yG at this;omega)) (hR:=fun w1 hm=>Hs.here.seg hm) (k:=?_);have hout:(byC (hOf (zN s) Ps)).length=32:=by
   rw[zd];unfold hOf Sha.sum;rw[uI,uq rfl]
  have hfold:Sha.sum (uV (zN s) Ps.length++yM Ps)=hOf (zN s) Ps:=rfl;rw[hfold]
  repeat (first|refine WO.stores (zo (vs:=byC (hOf (zN s) Ps)) (cs':=byC (hOf (zN s) Ps)) (hl:=hout) (h1:=zM _) (hc:=zC (by rw[hout];rfl)) (hle:=by rw[hout];rfl)) ?_|refine Tj ?_|intro _|refine Tc ?_|exact Tz)
  exact WX.aret1 (hr:=vF (vs:=byC (hOf (zN s) Ps)) (hc:=zt hout) (hl:=hout)) (hp:=rfl)
end Sx
end
section
open Go Go.RowKit Go.BigFrame
namespace Sx
attribute [local irreducible] DQ WC WO WT WX
def RdB (v:Value) (X:LN) (B:Nat) (w:World):Prop :=
 ∃ p c,v=.slice p X.length c∧X.length≤c∧c<9223372036854775808∧((p=none∧X=[])∨∃ b o,p=some ⟨b,o,none⟩∧b<B∧Seg w b o (byC X))
theorem RdB.mod {v:Value} {X:LN} {B:Nat} {w w' : World} {gs:LN} (h:RdB v X B w) (hm:Mod gs w w') (hg:∀ g∈gs,B≤g):RdB v X B w':=by
 obtain⟨p,c,rfl,h1,h2,h3⟩:=h;refine⟨p,c,rfl,h1,h2,h3.imp id (fun ⟨b,o,e,hb,hs⟩=>⟨b,o,e,hb,hs.mod hm (fun hbg=>by have:=hg b hbg;omega)⟩)⟩
theorem RdB.rdP {v:Value} {X:LN} {B:Nat} {w:World} (h:RdB v X B w) (hB:B≤w.heap.size):RdP v X w:=by
 obtain⟨p,c,rfl,h1,h2,h3⟩:=h;exact⟨p,c,rfl,h1,h2,h3.imp id (fun ⟨b,o,e,hb,hs⟩=>⟨b,o,e,by omega,hs⟩)⟩
def ql (vs:LV) (Ps:List (List Nat)) (B:Nat) (w:World):Prop:=vs.length=Ps.length∧∀ (i:Nat) (v:Value) (X:LN),vs[i]?=some v→Ps[i]?=some X→RdB v X B w
theorem ql.mod {vs:LV} {Ps:List (List Nat)} {B:Nat} {w w' : World} {gs:LN} (h:ql vs Ps B w) (hm:Mod gs w w') (hg:∀ g∈gs,B≤g):ql vs Ps B w':=⟨h.1,fun i v X h1 h2=>(h.2 i v X h1 h2).mod hm hg⟩
theorem ql.parts {vs:LV} {Ps:List (List Nat)} {B:Nat} {w:World} (h:ql vs Ps B w) (hB:B≤w.heap.size):z6 vs Ps w:=⟨h.1,fun i v X h1 h2=>(h.2 i v X h1 h2).rdP hB⟩
theorem z6.partsB {vs:LV} {Ps:List (List Nat)} {w:World} (h:z6 vs Ps w):ql vs Ps w.heap.size w:=h
theorem acM (s:LN) (Ps:List (List Nat)):(byC (hOf s Ps)).length=32:=by
 rw[zd];unfold hOf Sha.sum;rw[uI,uq rfl]
theorem zI (s:LN) (Ps:List (List Nat)):(hOf s Ps).length=32:=by
 unfold hOf Sha.sum;rw[uI,uq rfl]
theorem ac4 (s:LN):∀ x∈Sha.outs s,x<256:=by
 intro x hx;unfold Sha.outs at hx;obtain⟨y,_,hy⟩:=List.mem_flatMap.1 hx;simp only[List.mem_cons,List.not_mem_nil,or_false] at hy
 rcases hy with rfl|rfl|rfl|rfl<;>exact Nat.mod_lt _ Om
theorem yX (s:LN) (Ps:List (List Nat)):∀ x∈hOf s Ps,x<256:=ac4 _
theorem mH (vs:LV) (z y:Value):over (vs++[z]) vs.length [y]=vs++[y]:=by
 unfold over;rw[List.take_left,List.drop_of_length_le Sm];simp
def ahY (vs:LV) (cs:LV):Prop:=∃ z,cs=vs++[z]
theorem af3 (s:ByteArray) (vs:LV) (Ps:List (List Nat)) (gR g4 g8 B k:Nat) (hP:∀ X∈Ps,∀ x∈X,x<256) (hk:k<256) (hb:(yG (zN s) Ps).length≤1152921504606830000) (hs:s.size≤274877906944) (h4:g4≠gR) (h8:g8≠gR) (hB:B≤gR) (hN:vs.length<1099511627776) :
  FnI Tryz.prog 216 [.int .u8 (k:Int),pt g4,pt g8] gR 126 (ahY vs)
   (fun w=>Seg w g4 0 [.string s]∧Seg w g8 0 [AQ gR vs.length (vs.length+1)]∧ql vs Ps B w) (zk (beV (hOf (zN s) (Ps++[[k]])))):=by
 refine FnI.enter Tryz.func216 rfl rfl rfl ?_;rintro w cs ⟨z,rfl⟩ ⟨hw1,hw2,hw3⟩;have hbl:(yG (zN s) (Ps++[[k]])).length≤1152921504606840000:=by
  unfold yG uV at hb ⊢;rw[pK];simp only[List.length_append,zj,List.length_cons,List.length_nil] at hb ⊢;omega
 have hH:=fun g3=>lI s (vs++[AQ g3 1 1]) (Ps++[[k]]) gR 0 (vs.length+1) (fun X hX x hx=>by
  rcases List.mem_append.1 hX with hX|hX
  ·exact hP X hX x hx
  ·simp at hX;subst hX;simp at hx;omega) hbl hs
 simp only[List.length_append,List.length_cons,List.length_nil,Nat.zero_add] at hH;have hout:=acM (zN s) (Ps++[[k]]);have houtl:=zI (zN s) (Ps++[[k]]);have hlt:=yX (zN s) (Ps++[[k]]);have h4' : g4 ∉ [gR]:=by simpa using h4
 have h8' : g8 ∉ [gR]:=by simpa using h8
 generalize hO:hOf (zN s) (Ps++[[k]])=O at *
 repeat (first|refine Tk ?_|intro _|exact Tz)
 rename_i gO;refine WC.mainA [3,4,5,6,7,8] [(0,.string s),(1,AQ gR vs.length (vs.length+1)),(2,.int .u8 (k:Int))] Dtt (fun A hA=>?_);refine WT.given [(0,.int .u8 (k:Int)),(1,pt g4),(2,pt g8),(4,pt gO)] [] Kr (Tlv.a (Tlv.a (Tlv.a (Tlv.nil)) (h:=by refine Qux.does ?_;exact zm (hs:=hw2) (hb:=h8'))) (h:=by refine Qux.does ?_;exact zm (hs:=hw1) (hb:=h4'))) (fun hc hT=>?_)
 suffices hS504:∀ q3 q4 q7,A [8,7,6,5,4,3] [(11,AQ q3 1 1),(12,AQ q4 1 1),(13,AQ gR (vs.length+1) (vs.length+1)),(14,.agg (byC O).toArray),(5,pt q7),(0,.int .u8 (k:Int)),(1,pt g4),(2,pt g8),(4,pt gO)] [⟨q3,5,[.int .u8 (k:Int)]⟩,⟨q4,126,[AQ q3 1 1]⟩,⟨q7,70,byC O⟩,⟨gR,126,vs++[AQ q3 1 1]⟩,⟨gO,24,[.int .u64 0,.int .u64 0,.int .u64 0,.int .u64 0]⟩] by
  have hS248:∀ q3 q4 q7,A [7,6,5,4,3] [(11,AQ q3 1 1),(12,AQ q4 1 1),(13,AQ gR (vs.length+1) (vs.length+1)),(14,.agg (byC O).toArray),(5,pt q7),(0,.int .u8 (k:Int)),(1,pt g4),(2,pt g8),(4,pt gO)] [⟨q3,5,[.int .u8 (k:Int)]⟩,⟨q4,126,[AQ q3 1 1]⟩,⟨q7,70,List.replicate 32 (.int .u8 0)⟩,⟨gR,126,vs++[AQ q3 1 1]⟩,⟨gO,24,[.int .u64 0,.int .u64 0,.int .u64 0,.int .u64 0]⟩]:=by
   intro q3 q4 q7;refine (hA _ _ _).2 (WT.step [8] Dtt hc hT ⟨⟨_,rfl,?_⟩,trivial⟩)
   ·refine WO.stores (zo (vs:=byC O) (cs':=byC O) (hl:=hout) (h1:=zM _) (hc:=zC (by rw[hout];rfl)) (hle:=by rw[hout];rfl)) ?_;exact WT.go [] hA (hS504 q3 q4 q7)
  have hS120:∀ q3 q4,A [6,5,4,3] [(11,AQ q3 1 1),(12,AQ q4 1 1),(13,AQ gR (vs.length+1) (vs.length+1)),(14,.agg (byC O).toArray),(0,.int .u8 (k:Int)),(1,pt g4),(2,pt g8),(4,pt gO)] [⟨q3,5,[.int .u8 (k:Int)]⟩,⟨q4,126,[AQ q3 1 1]⟩,⟨gR,126,vs++[AQ q3 1 1]⟩,⟨gO,24,[.int .u64 0,.int .u64 0,.int .u64 0,.int .u64 0]⟩]:=by
   intro q3 q4;refine (hA _ _ _).2 (WT.step [7] Dtt hc hT ⟨⟨_,rfl,?_⟩,trivial⟩)
   ·(refine WO.autoM (k:=?_);intro q7);exact WT.go [(5,pt q7)] hA (hS248 q3 q4 q7)
  have hS184:∀ q3 q4 q7,A [7,5,4,3] [(11,AQ q3 1 1),(12,AQ q4 1 1),(13,AQ gR (vs.length+1) (vs.length+1)),(5,pt q7),(0,.int .u8 (k:Int)),(1,pt g4),(2,pt g8),(4,pt gO)] [⟨q3,5,[.int .u8 (k:Int)]⟩,⟨q4,126,[AQ q3 1 1]⟩,⟨q7,70,List.replicate 32 (.int .u8 0)⟩,⟨gR,126,vs++[AQ q3 1 1]⟩,⟨gO,24,[.int .u64 0,.int .u64 0,.int .u64 0,.int .u64 0]⟩]:=by
   intro q3 q4 q7;refine (hA _ _ _).2 (WT.step [6] Dtt hc hT ⟨⟨_,rfl,?_⟩,trivial⟩)
   ·refine WO.acallR (hc:=hH q3) (hR:=fun w1 hm=>⟨Hs.sg hm,z6.snoc (RdP.own0 (g:=q3) (X:=[k]) hm Hs.a Sm Om) ((hw3.mod hm.mod (by simpa using hB)).parts (by have:=(hm.ok ⟨gR,_,_⟩ (Hs.mem Hs.a)).lt;simp only at this;omega))⟩) (k:=?_);exact WT.go [(14,.agg (byC O).toArray)] hA (hS248 q3 q4 q7)
  have hS56:∀ q3 q4,A [5,4,3] [(11,AQ q3 1 1),(12,AQ q4 1 1),(13,AQ gR (vs.length+1) (vs.length+1)),(0,.int .u8 (k:Int)),(1,pt g4),(2,pt g8),(4,pt gO)] [⟨q3,5,[.int .u8 (k:Int)]⟩,⟨q4,126,[AQ q3 1 1]⟩,⟨gR,126,vs++[AQ q3 1 1]⟩,⟨gO,24,[.int .u64 0,.int .u64 0,.int .u64 0,.int .u64 0]⟩]:=by
   intro q3 q4;refine (hA _ _ _).2 (WT.step [6,7] Dtt hc hT ⟨⟨_,rfl,?_⟩,⟨_,rfl,?_⟩,trivial⟩)
   ·refine WO.acallR (hc:=hH q3) (hR:=fun w1 hm=>⟨Hs.sg hm,z6.snoc (RdP.own0 (g:=q3) (X:=[k]) hm Hs.a Sm Om) ((hw3.mod hm.mod (by simpa using hB)).parts (by have:=(hm.ok ⟨gR,_,_⟩ (Hs.mem Hs.a)).lt;simp only at this;omega))⟩) (k:=?_);exact WT.go [(14,.agg (byC O).toArray)] hA (hS120 q3 q4)
   ·(refine WO.autoM (k:=?_);intro q7);exact WT.go [(5,pt q7)] hA (hS184 q3 q4 q7)
  have hS152:∀ q3 q4 q7,A [7,4,3] [(11,AQ q3 1 1),(12,AQ q4 1 1),(5,pt q7),(0,.int .u8 (k:Int)),(1,pt g4),(2,pt g8),(4,pt gO)] [⟨q3,5,[.int .u8 (k:Int)]⟩,⟨q4,126,[AQ q3 1 1]⟩,⟨q7,70,List.replicate 32 (.int .u8 0)⟩,⟨gR,126,vs++[z]⟩,⟨gO,24,[.int .u64 0,.int .u64 0,.int .u64 0,.int .u64 0]⟩]:=by
   intro q3 q4 q7;refine (hA _ _ _).2 (WT.step [5] Dtt hc hT ⟨⟨_,rfl,?_⟩,trivial⟩)
   ·refine WO.both (pI (n:=1) (xs:=[AQ q3 1 1]) rfl rfl (Rds.own (g:=q4) (m:=1) Hs.a rfl) rfl Om rfl (by repeat (first|exact Rp.here|apply Rp.there)) (mH vs z _) Sm Dtt rfl) ?_;exact WT.go [(13,AQ gR (vs.length+1) (vs.length+1))] hA (hS184 q3 q4 q7)
  have hS24:∀ q3 q4,A [4,3] [(11,AQ q3 1 1),(12,AQ q4 1 1),(0,.int .u8 (k:Int)),(1,pt g4),(2,pt g8),(4,pt gO)] [⟨q3,5,[.int .u8 (k:Int)]⟩,⟨q4,126,[AQ q3 1 1]⟩,⟨gR,126,vs++[z]⟩,⟨gO,24,[.int .u64 0,.int .u64 0,.int .u64 0,.int .u64 0]⟩]:=by
   intro q3 q4;refine (hA _ _ _).2 (WT.step [5,7] Dtt hc hT ⟨⟨_,rfl,?_⟩,⟨_,rfl,?_⟩,trivial⟩)
   ·refine WO.both (pI (n:=1) (xs:=[AQ q3 1 1]) rfl rfl (Rds.own (g:=q4) (m:=1) Hs.a rfl) rfl Om rfl (by repeat (first|exact Rp.here|apply Rp.there)) (mH vs z _) Sm Dtt rfl) ?_;exact WT.go [(13,AQ gR (vs.length+1) (vs.length+1))] hA (hS56 q3 q4)
   ·(refine WO.autoM (k:=?_);intro q7);exact WT.go [(5,pt q7)] hA (hS152 q3 q4 q7)
  have hS136:∀ q3 q7,A [7,3] [(11,AQ q3 1 1),(5,pt q7),(0,.int .u8 (k:Int)),(1,pt g4),(2,pt g8),(4,pt gO)] [⟨q3,5,[.int .u8 (k:Int)]⟩,⟨q7,70,List.replicate 32 (.int .u8 0)⟩,⟨gR,126,vs++[z]⟩,⟨gO,24,[.int .u64 0,.int .u64 0,.int .u64 0,.int .u64 0]⟩]:=by
   intro q3 q7;refine (hA _ _ _).2 (WT.step [4] Dtt hc hT ⟨⟨_,rfl,?_⟩,trivial⟩)
   ·(refine WO.makes (zh (cs:=[AQ q3 1 1]) rfl Dtt rfl) ?_;intro q4);exact WT.go [(12,AQ q4 1 1)] hA (hS152 q3 q4 q7)
  have hS8:∀ q3,A [3] [(11,AQ q3 1 1),(0,.int .u8 (k:Int)),(1,pt g4),(2,pt g8),(4,pt gO)] [⟨q3,5,[.int .u8 (k:Int)]⟩,⟨gR,126,vs++[z]⟩,⟨gO,24,[.int .u64 0,.int .u64 0,.int .u64 0,.int .u64 0]⟩]:=by
   intro q3;refine (hA _ _ _).2 (WT.step [4,7] Dtt hc hT ⟨⟨_,rfl,?_⟩,⟨_,rfl,?_⟩,trivial⟩)
   ·(refine WO.makes (zh (cs:=[AQ q3 1 1]) rfl Dtt rfl) ?_;intro q4);exact WT.go [(12,AQ q4 1 1)] hA (hS24 q3 q4)
   ·(refine WO.autoM (k:=?_);intro q7);exact WT.go [(5,pt q7)] hA (hS136 q3 q7)
  have hS128:∀ q7,A [7] [(5,pt q7),(0,.int .u8 (k:Int)),(1,pt g4),(2,pt g8),(4,pt gO)] [⟨q7,70,List.replicate 32 (.int .u8 0)⟩,⟨gR,126,vs++[z]⟩,⟨gO,24,[.int .u64 0,.int .u64 0,.int .u64 0,.int .u64 0]⟩]:=by
   intro q7;refine (hA _ _ _).2 (WT.step [3] Dtt hc hT ⟨⟨_,rfl,?_⟩,trivial⟩)
   ·(refine WO.makes (zh (cs:=[.int .u8 (k:Int)]) rfl Dtt rfl) ?_;intro q3);exact WT.go [(11,AQ q3 1 1)] hA (hS136 q3 q7)
  have hS0:A [] [(0,.int .u8 (k:Int)),(1,pt g4),(2,pt g8),(4,pt gO)] [⟨gR,126,vs++[z]⟩,⟨gO,24,[.int .u64 0,.int .u64 0,.int .u64 0,.int .u64 0]⟩]:=by
   refine (hA _ _ _).2 (WT.step [3,7] Dtt hc hT ⟨⟨_,rfl,?_⟩,⟨_,rfl,?_⟩,trivial⟩)
   ·(refine WO.makes (zh (cs:=[.int .u8 (k:Int)]) rfl Dtt rfl) ?_;intro q3);exact WT.go [(11,AQ q3 1 1)] hA (hS8 q3)
   ·(refine WO.autoM (k:=?_);intro q7);exact WT.go [(5,pt q7)] hA (hS128 q7)
  exact WT.less ((hA _ _ _).1 hS0) Dtt Kle.a (by repeat (first|exact Lle.nil|exact Lle.same|refine Lle.c ?_))
 intro q3 q4 q7;refine (hA _ _ _).2 (WT.fin [3,4,5,6,7,8] 6 hc rfl Kr ?_);clear hc hT hA;have hGL:=av O q7 0 hlt houtl
 repeat (first|refine Tj ?_|intro _|refine WO.does (yu rfl) ?_|refine WO.acallR (hc:=hGL) (hR:=fun w1 hm=>Hs.sg hm) (k:=?_)|refine Tc ?_|exact Tz)
 exact WX.retI (ady rfl vF) Hs.a ⟨_,rfl⟩
end Sx
end
end Go.Proofs.YtiaibpcaloigkaaGreatDoor
