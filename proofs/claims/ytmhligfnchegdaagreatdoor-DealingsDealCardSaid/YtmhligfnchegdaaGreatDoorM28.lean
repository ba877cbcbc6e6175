/- Part 28 of the proof: RfQ, RfV, RfB, RfC -/
import Derived.Test.YtmhligfnchegdaaGreatDoorM27
import Derived.Test.YtmhligfnchegdaaGreatDoorM11
import Derived.Test.YtmhligfnchegdaaGreatDoorM21
import Derived.Test.YtmhligfnchegdaaGreatDoorM19
import Derived.Test.YtmhligfnchegdaaGreatDoorM23
import Derived.Test.YtmhligfnchegdaaGreatDoorM25
set_option linter.unusedSimpArgs false
set_option linter.unusedVariables false
namespace Go.Proofs.YtmhligfnchegdaaGreatDoor
open Go Go.RowKit Go.BigFrame
namespace Sx
attribute [local irreducible] wd DQ DQS WO WC WX
set_option maxHeartbeats 1000000 in
theorem r_PutLong (B:List Nat) (x c:Nat) (p:Option Addr) (hl:B.length≤274877906944) :
    Fn Tryz.prog 38 [.slice p B.length c,numV x] (fun w=>Rd (.slice p B.length c) B.length (byC B) w) (NewZ 5 (B++be 32 x)):=by
  have hP:=fun (X:List Nat) k c p (h:X.length≤549755813888)=>r_Put X (wd k x) 8 c p (by decide) (by decide) (wd_lt _ _) h
  have hT:B++be 32 x=B++be 8 (wd 3 x)++be 8 (wd 2 x)++be 8 (wd 1 x)++be 8 (wd 0 x):=by
    rw[← beL_num];simp[beL]
  rw[hT]
  have l3:(B++be 8 (wd 3 x)).length=B.length+8:=by rw[List.length_append,be_length]
  have l2:(B++be 8 (wd 3 x)++be 8 (wd 2 x)).length=B.length+16:=by rw[List.length_append,be_length,l3]
  have l1:(B++be 8 (wd 3 x)++be 8 (wd 2 x)++be 8 (wd 1 x)).length=B.length+24:=by rw[List.length_append,be_length,l2]
  have p0:=hP B 3 c p (by omega)
  have p1:=fun g c=>hP (B++be 8 (wd 3 x)) 2 c (some ⟨g,0,none⟩) (by omega)
  have p2:=fun g c=>hP (B++be 8 (wd 3 x)++be 8 (wd 2 x)) 1 c (some ⟨g,0,none⟩) (by omega)
  have p3:=fun g c=>hP (B++be 8 (wd 3 x)++be 8 (wd 2 x)++be 8 (wd 1 x)) 0 c (some ⟨g,0,none⟩) (by omega)
  clear hP hT
  generalize B++be 8 (wd 3 x)++be 8 (wd 2 x)++be 8 (wd 1 x)++be 8 (wd 0 x)=X0 at *
  generalize B++be 8 (wd 3 x)++be 8 (wd 2 x)++be 8 (wd 1 x)=X1 at *
  generalize B++be 8 (wd 3 x)++be 8 (wd 2 x)=X2 at *
  generalize B++be 8 (wd 3 x)=X3 at *
  refine Fn.enter Tryz.func38 rfl rfl rfl ?_
  intro w hw
  repeat (first|refine WX.rounds ?_|refine WC.loopU 4 ?_|refine Ta ?_|(refine Tm ?_;intro _)|refine Tc ?_|exact Tz)
  refine WO.acallZ (hc:=p0) (hR:=fun w1 hm=>hw.rds.rd hm) (hm:=rfl) (k:=fun g1 c1 r1 h1 h1'=>?_)
  repeat (first|refine WX.rounds ?_|refine Ta ?_|(refine Tm ?_;intro _)|refine Tc ?_|exact Tz)
  refine WO.acallZ (hc:=p1 g1 c1) (hR:=fun w1 hm=>rd_ownZ hm Hs.here h1 h1') (hm:=rfl) (k:=fun g2 c2 r2 h2 h2'=>?_)
  repeat (first|refine WX.rounds ?_|refine Ta ?_|(refine Tm ?_;intro _)|refine Tc ?_|exact Tz)
  refine WO.acallZ (hc:=p2 g2 c2) (hR:=fun w1 hm=>rd_ownZ hm Hs.here h2 h2') (hm:=rfl) (k:=fun g3 c3 r3 h3 h3'=>?_)
  repeat (first|refine WX.rounds ?_|refine Ta ?_|(refine Tm ?_;intro _)|refine Tc ?_|exact Tz)
  refine WO.acallZ (hc:=p3 g3 c3) (hR:=fun w1 hm=>rd_ownZ hm Hs.here h3 h3') (hm:=rfl) (k:=fun g4 c4 r4 h4 h4'=>?_)
  repeat (first|refine WX.rounds ?_|refine Ta ?_|(refine Tm ?_;intro _)|refine Tc ?_|exact Tz)
  exact WX.retZ h4 h4' rfl
set_option maxHeartbeats 1000000 in
theorem r_Get (B:List Nat) (n c b o:Nat) (hB:∀ b∈B,b<256) (hn:8≤n) (hBn:n≤B.length) (hc:n≤c) (hc2:c<9223372036854775808) :
    Fn Tryz.prog 259 [.slice (some ⟨b,o,none⟩) n c,.int .i64 8] (fun w=>Seg w b o (byC B)) (Is (.tuple #[.int .u64 ((beV (B.take 8):Nat):Int),.int .i64 0])):=by
  have hle:decide ((n:Int)<8)=false:=decide_eq_false (by omega)
  refine Fn.enter Tryz.func259 rfl rfl rfl ?_
  intro w hw
  repeat (first|refine Ta ?_|(refine Tm ?_;intro _)|refine Tc ?_|exact Tz)
  rw[hle]
  repeat (first|refine Ta ?_|(refine Tm ?_;intro _)|refine Tc ?_|exact Tz)
  refine WC.loopI (σ:=Nat) (fun i=>i≤8) (fun i=>[(0,.slice (some ⟨b,o,none⟩) n c),(1,.int .i64 8),(6,.int .u64 ((beV (B.take i):Nat):Int)),(7,.int .i64 (i:Int))]) (fun _=>[]) (fun i=>8 - i) 0 (fun i hi=>?_) (Nat.zero_le _)
  try dsimp only at hi ⊢
  by_cases hlt:i<8
  · have hi2:i<B.length:=by omega
    have hget:(byC B)[o+i - o]?=some (.int .u8 ((B[i]:Nat):Int)):=by rw[Nat.add_sub_cancel_left];exact byC_get hi2
    have hb:B[i] < 256:=hB _ (List.getElem_mem hi2)
    have hv:beV (B.take i)<72057594037927936:=by
      have h1:=beV_lt (byte_take hB i)
      have h2:(B.take i).length≤7:=by rw[List.length_take];omega
      exact Nat.lt_of_lt_of_le h1 (Nat.pow_le_pow_right (n:=256) (by omega) h2)
    have hnext:beV (B.take i)*256+B[i]=beV (B.take (i+1)):=by rw[List.take_succ_eq_append_getElem hi2,beV_snoc]
    have hm:=mul_u64 (beV (B.take i)) 256 (by omega)
    have ha:=add_u64 (beV (B.take i)*256) B[i] (by omega)
    have hcv:IntKind.u64.wrap ((B[i]:Nat):Int)=((B[i]:Nat):Int):=u64_in (by omega) (by omega)
    rw[hnext] at ha
    generalize hV:beV (B.take (i+1))=V' at *
    generalize beV (B.take i)=V at *
    generalize B[i]=z at *
    repeat (first|refine Ta ?_|(refine Tm ?_;intro _)|refine Tc ?_|exact Tz)
    refine WC.dT rfl (by omega) ?_
    repeat (first|refine Ta ?_|(refine Tm ?_;intro _)|refine WO.does (does_mul rfl rfl hm) ?_|refine WO.does (does_conv rfl hcv) ?_|refine WO.does (does_add rfl rfl ha) ?_|refine Tc ?_|exact Tz)
    refine WX.metI (i+1) (hk:=(by repeat (first|exact Kle.nil|refine Kle.cons rfl (by first|rfl|(rw[hV])) ?_))) (hs:=⟨by show i+1≤8;omega,by show 8 - (i+1)<8 - i;omega⟩)
  · have hi8:i=8:=by omega
    have hv:beV (B.take i)=beV (B.take 8):=by rw[hi8]
    rw[hv]
    generalize beV (B.take 8)=V
    repeat (first|refine Ta ?_|(refine Tm ?_;intro _)|refine Tc ?_|exact Tz)
    refine WC.dF rfl (by omega) ?_
    repeat (first|refine Ta ?_|(refine Tm ?_;intro _)|refine Tc ?_|exact Tz)
set_option maxHeartbeats 1000000 in
theorem r_GetLong (B:List Nat) (b o:Nat) (hB:∀ b∈B,b<256) (hl:B.length=32) :
    Fn Tryz.prog 220 [.slice (some ⟨b,o,none⟩) 32 32] (fun w=>Seg w b o (byC B)) (Is (.tuple #[numV (beV B),.int .i64 0])):=by
  have hG:=fun l (h:l≤24)=>r_Get (B.drop l) (32 - l) (32 - l) b (o+l) (byte_drop hB l) (by omega) (by rw[List.length_drop];omega) (by omega) (by omega)
  have hS:=fun l (w:World) (h:Seg w b o (byC B))=>h.sub (k:=l) (m:=32) (vs:=byC (B.drop l)) (by rw[cut,byC_drop,List.take_of_length_le];rw[byC_length,List.length_drop];omega)
  have hend:Value.agg #[.int .u64 ((beV ((B.drop 24).take 8):Nat):Int),.int .u64 ((beV ((B.drop 16).take 8):Nat):Int),.int .u64 ((beV ((B.drop 8).take 8):Nat):Int),.int .u64 ((beV ((B.drop 0).take 8):Nat):Int)]=numV (beV B):=by
    rw[numV_of (beV_lt8 (byte_drop hB _) 0) (beV_lt8 (byte_drop hB _) 0) (beV_lt8 (byte_drop hB _) 0) (beV_lt8 (byte_drop hB _) 0),beV_words hl]
  have h0:=hG 0 (by decide)
  have h1:=hG 8 (by decide)
  have h2:=hG 16 (by decide)
  have h3:=hG 24 (by decide)
  rw[← hend]
  clear hend hG
  generalize beV ((B.drop 0).take 8)=d0 at *
  generalize beV ((B.drop 8).take 8)=d1 at *
  generalize beV ((B.drop 16).take 8)=d2 at *
  generalize beV ((B.drop 24).take 8)=d3 at *
  simp only[Nat.reduceSub] at h0 h1 h2 h3
  refine Fn.enter Tryz.func220 rfl rfl rfl ?_
  intro w hw
  have hw0:=hS 0 w hw
  have hw1:=hS 8 w hw
  have hw2:=hS 16 w hw
  have hw3:=hS 24 w hw
  clear hS
  repeat (first|refine WX.rounds ?_|refine WC.loopU 4 ?_|refine Ta ?_|(refine Tm ?_;intro _)|refine WO.does (does_sliceFrom (l:=0) rfl rfl (by decide) (by decide) rfl) ?_|refine WO.acallR (hc:=h0) (hR:=fun w' hm=>hw0.mod hm.mod (by simp)) (k:=?_)|refine Tc ?_|exact Tz)
  repeat (first|refine WX.rounds ?_|refine Ta ?_|(refine Tm ?_;intro _)|refine WO.does (does_sliceFrom (l:=8) rfl rfl (by decide) (by decide) rfl) ?_|refine WO.acallR (hc:=h1) (hR:=fun w' hm=>hw1.mod hm.mod (by simp)) (k:=?_)|refine Tc ?_|exact Tz)
  repeat (first|refine WX.rounds ?_|refine Ta ?_|(refine Tm ?_;intro _)|refine WO.does (does_sliceFrom (l:=16) rfl rfl (by decide) (by decide) rfl) ?_|refine WO.acallR (hc:=h2) (hR:=fun w' hm=>hw2.mod hm.mod (by simp)) (k:=?_)|refine Tc ?_|exact Tz)
  repeat (first|refine WX.rounds ?_|refine Ta ?_|(refine Tm ?_;intro _)|refine WO.does (does_sliceFrom (l:=24) rfl rfl (by decide) (by decide) rfl) ?_|refine WO.acallR (hc:=h3) (hR:=fun w' hm=>hw3.mod hm.mod (by simp)) (k:=?_)|refine Tc ?_|exact Tz)
set_option maxHeartbeats 1000000 in
theorem r_PutBytes (B X:List Nat) (p q:Option Addr) (c d:Nat) (hB:B.length≤274877906944) (hX:X.length≤274877906944) :
    Fn Tryz.prog 216 [.slice p B.length c,.slice q X.length d] (fun w=>Rd (.slice p B.length c) B.length (byC B) w∧Rd (.slice q X.length d) X.length (byC X) w)
      (NewR 5 (byC (B++be 4 X.length++X))):=by
  have h4:=r_Put B X.length 4 c p (by decide) (by decide) (by omega) (by omega)
  have hl:(B++be 4 X.length).length=B.length+4:=by rw[List.length_append,be_length]
  have hu:IntKind.u64.wrap ((X.length:Nat):Int)=((X.length:Nat):Int):=u64_in (by omega) (by omega)
  rw[byC_append]
  refine Fn.enter Tryz.func216 rfl rfl rfl ?_
  intro w hw
  obtain⟨hw1,hw2⟩:=hw
  repeat (first|refine Ta ?_|(refine Tm ?_;intro _)|refine WO.does (does_conv rfl hu) ?_|refine Tc ?_|exact Tz)
  refine WO.acallA (hc:=Fn.newZ h4) (hR:=fun w1 hm=>hw1.rds.rd hm) (hm:=byC_length _) (k:=fun g c1 r h1 h2=>?_)
  repeat (first|refine Ta ?_|(refine Tm ?_;intro _)|refine Tc ?_|exact Tz)
  refine WO.appB (g:=g) (xs:=byC (B++be 4 X.length)) (r:=r) (ys:=byC X) (m:=X.length) (l:=(B++be 4 X.length).length+X.length) rfl rfl (byC_length _) h1 Pk.here hw2.rds (byC_length _) (byC_one _) rfl (by omega) h2 (by omega) (by decide) (by decide) (fun g' c' r' hd1 hd2=>?_)
  repeat (first|refine Ta ?_|(refine Tm ?_;intro _)|refine Tc ?_|exact Tz)
  exact WX.retA hd1 hd2 (by rw[List.length_append,byC_length,byC_length])
end Sx
end Go.Proofs.YtmhligfnchegdaaGreatDoor
namespace Go.Proofs.YtmhligfnchegdaaGreatDoor
open Go Go.RowKit Go.BigFrame
namespace Sx
attribute [local irreducible] wd DQ DQS WO WC WX
theorem hBytes_len (s:List Nat) (Ps:List (List Nat)):(hBytes s Ps).length=8+s.length+(hBody Ps).length:=by
  unfold hBytes hHead;simp only[List.length_append,be_length];omega
theorem hBytes_lt {s:List Nat} {Ps:List (List Nat)} (hs:∀ x∈s,x<256) (hP:∀ X∈Ps,∀ x∈X,x<256):∀ x∈hBytes s Ps,x<256:=by
  unfold hBytes hHead
  refine app_lt (app_lt (app_lt be_lt hs) be_lt) ?_
  intro x hx
  unfold hBody at hx
  obtain⟨X,hX,hx⟩:=List.mem_flatMap.1 hx
  rcases List.mem_append.1 hx with hx|hx
  · exact be_lt x hx
  · exact hP X hX x hx
set_option maxHeartbeats 2000000 in
theorem r6_Bytes (s:ByteArray) (vs:List Value) (Ps:List (List Nat)) (B O C:Nat) (hb:(hBytes (strB s) Ps).length≤274877906944) :
    Fn Tryz.prog 130 [.string s,.slice (some ⟨B,O,none⟩) vs.length C] (fun w=>Seg w B O vs∧Parts vs Ps w) (NewR 5 (byC (hBytes (strB s) Ps))):=by
  have hsz:=strB_length s
  rw[hBytes_len] at hb
  have hs' : (strB s).length≤274877906944:=by omega
  refine Fn.enter Tryz.func130 rfl rfl rfl ?_
  intro w hw
  obtain⟨hw1,hw2⟩:=hw
  have hN:=hw2.1
  have hNs:Ps.length*4≤(hBody Ps).length:=by
    clear hb hw2 hN
    induction Ps with
    | nil=>simp
    | cons X Ps ih=>simp only[hBody,List.flatMap_cons,List.length_append,List.length_cons,be_length] at ih ⊢;omega
  repeat (first|refine Ta ?_|(refine Tm ?_;intro _)|refine Tc ?_|exact Tz)
  refine WO.news (news_str (by rfl) (by omega)) (fun x hx=>?_)
  obtain⟨hx1,hx2⟩:=hx
  generalize x 0=gb at *
  generalize x 1=cb at *
  have hx1' : (strB s).length≤cb:=by omega
  rw[← hsz]
  have hPB:=r_PutBytes [] (strB s) none (some ⟨gb,0,none⟩) 0 cb (by decide) hs'
  repeat (first|refine Ta ?_|(refine Tm ?_;intro _)|refine Tc ?_|exact Tz)
  refine WO.acallA (hc:=hPB) (hR:=fun w1 hm=>⟨Rd.nil,(RdP.own hm Hs.here hx1' hx2).rd⟩) (hm:=byC_length _) (k:=fun gp cp r h1 h2=>?_)
  have hcv:IntKind.u64.wrap ((vs.length:Nat):Int)=((vs.length:Nat):Int):=u64_in (by omega) (by omega)
  have hhl:([]++be 4 (strB s).length++strB s).length=4+(strB s).length:=by simp only[List.nil_append,List.length_append,be_length]
  have hP4:=r_Put ([]++be 4 (strB s).length++strB s) vs.length 4 cp (some ⟨gp,0,none⟩) (by decide) (by decide) (by omega) (by omega)
  have hHd:[]++be 4 (strB s).length++strB s++be 4 vs.length=hHead (strB s) Ps.length:=by rw[hN];simp[hHead]
  rw[hHd] at hP4
  repeat (first|refine WO.does (does_conv rfl hcv) ?_|refine Ta ?_|(refine Tm ?_;intro _)|refine Tc ?_|exact Tz)
  refine WO.acallA (hc:=Fn.newZ hP4) (hR:=fun w1 hm=>rd_own hm Hs.here h1 h2) (hm:=byC_length _) (k:=fun g4 c4 r4 h3 h4=>?_)
  repeat (first|refine Ta ?_|(refine Tm ?_;intro _)|refine Tc ?_|exact Tz)
  have hhd:(hHead (strB s) Ps.length).length=8+(strB s).length:=by unfold hHead;simp only[List.length_append,be_length];omega
  refine WC.loopI (σ:=Nat × Nat × Nat × List Value) (fun x=>x.1≤vs.length∧(byC (hHead (strB s) Ps.length++hBody (Ps.take x.1))++x.2.2.2).length=x.2.2.1∧x.2.2.1<9223372036854775808)
    (fun x=>[(1,.slice (some ⟨B,O,none⟩) vs.length C),(5,.slice (some ⟨x.2.1,0,none⟩) (hHead (strB s) Ps.length++hBody (Ps.take x.1)).length x.2.2.1),(6,.int .i64 (x.1:Int))])
    (fun x=>[⟨x.2.1,5,byC (hHead (strB s) Ps.length++hBody (Ps.take x.1))++x.2.2.2⟩]) (fun x=>vs.length - x.1) (0,g4,c4,r4) (fun x hx=>?_) ⟨Nat.zero_le _,by simpa [hBody] using h3,h4⟩ (by
      simp only[List.take_zero,show hBody []=[] from rfl,List.append_nil]
      repeat (first|exact Kle.nil|refine Kle.cons rfl rfl ?_)) (by
      simp only[List.take_zero,show hBody []=[] from rfl,List.append_nil]
      repeat (first|exact Lle.nil|refine Lle.cons (by repeat (first|exact Pk.here|apply Pk.there)) rfl ?_))
  clear hP4 hPB h1 h2 h3 h4 hHd hhl
  obtain⟨i,g,c,r⟩:=x
  obtain⟨hi,h1,h2⟩:=hx
  dsimp only at hi h1 h2 ⊢
  by_cases hlt:i<vs.length
  · obtain⟨v,hv⟩ : ∃ v,vs[i]?=some v:=⟨_,List.getElem?_eq_getElem hlt⟩
    obtain⟨X,hX⟩ : ∃ X,Ps[i]?=some X:=⟨_,List.getElem?_eq_getElem (by omega)⟩
    have hR:=hw2.2 i v X hv hX
    have hle:=hBody_le hX
    have hnx:=hBody_take hX
    have hRr:=hR
    obtain⟨p,cx,rfl,hc1,hc2,hpc⟩:=hR
    have hvs:vs[O+i - O]?=some (.slice p X.length cx):=by rw[Nat.add_sub_cancel_left];exact hv
    have hal:(hHead (strB s) Ps.length++hBody (Ps.take i)).length=8+(strB s).length+(hBody (Ps.take i)).length:=by rw[List.length_append,hhd]
    have hP:=r_PutBytes (hHead (strB s) Ps.length++hBody (Ps.take i)) X (some ⟨g,0,none⟩) p c cx (by omega) (by omega)
    rw[List.append_assoc,List.append_assoc,← List.append_assoc (hBody _),← hnx] at hP
    generalize hHead (strB s) Ps.length++hBody (Ps.take i)=Z at *
    repeat (first|refine Ta ?_|(refine Tm ?_;intro _)|refine Tc ?_|exact Tz)
    refine WC.dT rfl (by omega) ?_
    repeat (first|refine WO.does (does_indexSlice (o':=O+i) rfl rfl hlt (by omega)) ?_|refine WO.does (a_loadF1 (hs:=hw1) (hle:=Nat.le_add_right _ _) (hc:=hvs)) ?_|refine Ta ?_|(refine Tm ?_;intro _)|refine Tc ?_|exact Tz)
    refine WO.acallA (hc:=hP) (hR:=fun w1 hm=>⟨rd_own hm Hs.here h1 h2,(hRr.mod hm.mod (by simp)).rd⟩) (hm:=byC_length _) (k:=fun g' c' r' hd1 hd2=>?_)
    repeat (first|refine Ta ?_|(refine Tm ?_;intro _)|refine Tc ?_|exact Tz)
    exact WX.metI (i+1,g',c',r') (hs:=⟨⟨by show i+1≤vs.length;omega,hd1,hd2⟩,by show vs.length - (i+1)<vs.length - i;omega⟩)
  · have hie:i=Ps.length:=by omega
    rw[show Ps.take i=Ps by rw[hie,List.take_length],show hHead (strB s) Ps.length++hBody Ps=hBytes (strB s) Ps from rfl] at *
    repeat (first|refine Ta ?_|(refine Tm ?_;intro _)|refine Tc ?_|exact Tz)
    refine WC.dF rfl (by omega) ?_
    repeat (first|refine Ta ?_|(refine Tm ?_;intro _)|refine Tc ?_|exact Tz)
    exact WX.retA h1 h2 (byC_length _)
set_option maxHeartbeats 1000000 in
theorem r6_Of (s:ByteArray) (vs:List Value) (Ps:List (List Nat)) (B O C:Nat) (hP:∀ X∈Ps,∀ x∈X,x<256) (hb:(hBytes (strB s) Ps).length≤274877906944) :
    Fn Tryz.prog 36 [.string s,.slice (some ⟨B,O,none⟩) vs.length C] (fun w=>Seg w B O vs∧Parts vs Ps w) (Is (.agg (byC (hOf (strB s) Ps)).toArray)):=by
  have h1:=r6_Bytes s vs Ps B O C hb
  have h2:=fun g c=>r5_Of (hBytes (strB s) Ps) c (some ⟨g,0,none⟩) (hBytes_lt (strB_lt s) hP) (by omega)
  rw[show Sha.sum (hBytes (strB s) Ps)=hOf (strB s) Ps from rfl] at h2
  have hout:=hOf_len (strB s) Ps
  generalize hOf (strB s) Ps=H at *
  generalize hBytes (strB s) Ps=Z at *
  refine Fn.enter Tryz.func36 rfl rfl rfl ?_
  intro w hw
  repeat (first|refine Ta ?_|(refine Tm ?_;intro _)|refine Tc ?_|exact Tz)
  refine WO.acallA (hc:=h1) (hR:=fun w1 hm=>⟨hw.1.mod hm.mod (by simp),hw.2.mod hm.mod (by simp)⟩) (hm:=byC_length _) (k:=fun g c r e1 e2=>?_)
  repeat (first|refine Ta ?_|(refine Tm ?_;intro _)|refine Tc ?_|exact Tz)
  refine WO.acallR (hc:=h2 g c) (hR:=fun w1 hm=>rd_own hm Hs.here e1 e2) (k:=?_)
  repeat (first|refine WO.stores (a_store (vs:=byC H) (cs':=byC H) (hl:=hout) (h1:=byC_one _) (hc:=over_all (by rw[hout];rfl)) (hle:=by rw[hout];rfl)) ?_|refine Ta ?_|(refine Tm ?_;intro _)|refine Tc ?_|exact Tz)
  exact WX.aret1 (hr:=a_rvc (vs:=byC H) (hc:=cut_all hout) (hl:=hout)) (hp:=rfl)
end Sx
end Go.Proofs.YtmhligfnchegdaaGreatDoor
namespace Go.Proofs.YtmhligfnchegdaaGreatDoor
open Go Go.RowKit
namespace Sx
attribute [local irreducible] DQ DQS WO WC WX
def ofW (l:List Nat) (i:Nat):List Nat:=[dval ((l.take i).take 4),dval (((l.take i).drop 4).take 4),dval (((l.take i).drop 8).take 4),dval (((l.take i).drop 12).take 4)]
theorem sixteen {l:List Nat} (h:l.length=16):∃ a b c d e f g i j k m n o p q r,l=[a,b,c,d,e,f,g,i,j,k,m,n,o,p,q,r]:=by
  match l,h with
  | [a,b,c,d,e,f,g,i,j,k,m,n,o,p,q,r],_=>exact⟨a,b,c,d,e,f,g,i,j,k,m,n,o,p,q,r,rfl⟩
theorem ofW_zero (l:List Nat):ofW l 0=[0,0,0,0]:=rfl
theorem ofW_step {l:List Nat} {i:Nat} (h:l.length=16) (hi:i<16):(ofW l i).set (i / 4) ((ofW l i).getD (i / 4) 0+l.getD i 0*2 ^ (16*(i%4)))=ofW l (i+1):=by
  obtain⟨a,b,c,d,e,f,g,u,j,k,m,n,o,p,q,r,rfl⟩:=sixteen h
  match i,hi with
  | 0,_|1,_|2,_|3,_|4,_|5,_|6,_|7,_|8,_|9,_|10,_|11,_|12,_|13,_|14,_|15,_ =>
    simp[ofW,dval]
    try omega
  | n+16,h=>omega
theorem ofW_lt {l:List Nat} {i:Nat} (h:l.length=16) (hl:∀ d∈l,d<65536) (hi:i<16):(ofW l i).getD (i / 4) 0+l.getD i 0*2 ^ (16*(i%4))<18446744073709551616:=by
  obtain⟨a,b,c,d,e,f,g,u,j,k,m,n,o,p,q,r,rfl⟩:=sixteen h
  simp only[List.mem_cons,List.not_mem_nil,or_false,forall_eq_or_imp,forall_eq] at hl
  match i,hi with
  | 0,_|1,_|2,_|3,_|4,_|5,_|6,_|7,_|8,_|9,_|10,_|11,_|12,_|13,_|14,_|15,_ =>
    simp[ofW,dval]
    omega
  | n+16,h=>omega
theorem ofW_full {l:List Nat} (h:l.length=16) (hl:∀ d∈l,d<65536):Value.agg (woC (ofW l 16)).toArray=numV (dval l):=by
  obtain⟨a,b,c,d,e,f,g,u,j,k,m,n,o,p,q,r,rfl⟩:=sixteen h
  simp only[List.mem_cons,List.not_mem_nil,or_false,forall_eq_or_imp,forall_eq] at hl
  have:=numV_of (a:=a+65536*(b+65536*(c+65536*d))) (b:=e+65536*(f+65536*(g+65536*u))) (c:=j+65536*(k+65536*(m+65536*n))) (d:=o+65536*(p+65536*(q+65536*r))) (by omega) (by omega) (by omega) (by omega)
  have e:val4 (a+65536*(b+65536*(c+65536*d))) (e+65536*(f+65536*(g+65536*u))) (j+65536*(k+65536*(m+65536*n))) (o+65536*(p+65536*(q+65536*r)))=dval [a,b,c,d,e,f,g,u,j,k,m,n,o,p,q,r]:=by
    simp only[val4,dval];omega
  rw[← e,← this]
  rfl
set_option maxHeartbeats 1000000 in
theorem r_of (l:List Nat) (b o c:Nat) (h:l.length=16) (hl:∀ d∈l,d<65536):Fn Tryz.prog 271 [.slice (some ⟨b,o,none⟩) 16 c] (fun w=>Seg w b o (woC l)) (Is (numV (dval l))):=by
  have hstep:=fun i (hi:i<16)=>ofW_step (l:=l) h hi
  have hlt2:=fun i (hi:i<16)=>ofW_lt (l:=l) h hl hi
  have hfull:=ofW_full h hl
  have hz:=ofW_zero l
  have hlen:∀ i,(ofW l i).length=4:=fun _=>rfl
  rw[← hfull]
  generalize ofW l=F at *
  refine Fn.enter Tryz.func271 rfl rfl rfl ?_
  intro w hw
  repeat (first|refine Ta ?_|(refine Tm ?_;intro _)|refine Tc ?_|exact Tz)
  rename_i g2 g3
  refine WC.loopI (σ:=Nat) (fun i=>i≤16) (fun i=>[(0,.slice (some ⟨b,o,none⟩) 16 c),(2,pt g2),(3,pt g3),(4,.int .i64 (i:Int))]) (fun i=>[⟨g2,24,woC [0,0,0,0]⟩,⟨g3,24,woC (F i)⟩]) (fun i=>16 - i) 0 (fun i hi=>?_) (Nat.zero_le _) (by repeat (first|exact Kle.nil|refine Kle.cons rfl rfl ?_)) (by
      rw[hz]
      repeat (first|exact Lle.nil|refine Lle.cons (by repeat (first|exact Pk.here|apply Pk.there)) rfl ?_))
  try dsimp only at hi ⊢
  by_cases hlt:i<16
  · have hq:=quo_i64 i 4 (by omega)
    have hr:=rem_nat i 4
    have hm:=mul_i64 16 (i%4) (by omega)
    have hs2:=hlt2 i hlt
    have hs:=shl_u64 (l.getD i 0) (16*(i%4)) (by omega) (by omega)
    have ha:=add_u64 ((F i).getD (i / 4) 0) (l.getD i 0*2 ^ (16*(i%4))) hs2
    have hset:=hstep i hlt
    have hli:=hlen i
    have hget:(woC l)[o+i - o]?=some (.int .u64 ((l.getD i 0:Nat):Int)):=by rw[Nat.add_sub_cancel_left];exact woC_getD (by omega)
    repeat (first|refine Ta ?_|(refine Tm ?_;intro _)|refine Tc ?_|exact Tz)
    refine WC.dT rfl (by omega) ?_
    repeat (first|refine Ta ?_|(refine Tm ?_;intro _)|refine Tc ?_|exact Tz)
    refine WC.adraw 16 (k:=?_)
    repeat (first|refine Da ?_|refine DQ.does (fun s _=>does_quo rfl rfl (by decide) hq) Dp.const ?_|refine DQ.does (fun s _=>l_word (hi:=by omega)) Dp.const ?_|refine DQ.does (fun s _=>does_rem rfl rfl (by decide) hr) Dp.const ?_|refine DQ.does (fun s _=>does_mul rfl rfl hm) Dp.const ?_|refine DQ.does (fun s _=>does_shl rfl rfl (by omega) hs) Dp.const ?_|refine DQ.does (fun s _=>does_add rfl rfl ha) Dp.const ?_|refine Dc ?_)
    refine DQ.anil (k:=?_)
    intro sx _
    repeat (first|refine Ta ?_|(refine Tm ?_;intro _)|refine WO.stores (s_word (hi:=by omega)) ?_|refine Tc ?_|exact Tz)
    rw[hset]
    refine WX.metI (i+1) (hs:=⟨by show i+1≤16;omega,by show 16 - (i+1)<16 - i;omega⟩)
  · have hi16:i=16:=by omega
    rw[show F i=F 16 by rw[hi16]]
    repeat (first|refine Ta ?_|(refine Tm ?_;intro _)|refine Tc ?_|exact Tz)
    refine WC.dF rfl (by omega) ?_
    repeat (first|exact WX.aret1 (hr:=rv_row (hl:=hlen 16)) (hp:=rfl)|refine Ta ?_|(refine Tm ?_;intro _)|refine WO.does (l_row (hl:=hlen 16)) ?_|refine WO.stores (s_row (hl:=hlen 16) (hc:=by simp[woC_length])) ?_|refine Tc ?_|exact Tz)
end Sx
end Go.Proofs.YtmhligfnchegdaaGreatDoor
namespace Go.Proofs.YtmhligfnchegdaaGreatDoor
open Go Go.RowKit
namespace Sx
attribute [local irreducible] wd DQ DQS WO WC WX
theorem dgs_getD {a i:Nat} (h:i<16):(dgs 16 a).getD i 0=a / 65536 ^ i%65536:=by rw[List.getD,dgs_get a h];rfl
theorem div_step (a i:Nat):a / 65536 ^ i=65536*(a / 65536 ^ (i+1))+a / 65536 ^ i%65536:=by
  rw[Nat.pow_succ,← Nat.div_div_eq_div_mul];omega
theorem lt_of_div {a b m:Nat} (h:a / m<b / m):a<b:=by
  rcases Nat.lt_or_ge a b with h1|h1
  · exact h1
  · have:=Nat.div_le_div_right (c:=m) h1;omega
set_option maxHeartbeats 1000000 in
theorem r_Cmp (a b:Nat) (ha:a<B256) (hb:b<B256):Fn Tryz.prog 217 [numV a,numV b] Tr (Is (.int .i64 (cmpN a b))):=by
  have hA:=r_Digits a ha
  have hB:=r_Digits b hb
  have dA:∀ i,i<16→a / 65536 ^ i=65536*(a / 65536 ^ (i+1))+(dgs 16 a).getD i 0:=fun i hi=>by rw[dgs_getD hi];exact div_step a i
  have dB:∀ i,i<16→b / 65536 ^ i=65536*(b / 65536 ^ (i+1))+(dgs 16 b).getD i 0:=fun i hi=>by rw[dgs_getD hi];exact div_step b i
  have hlA:=dgs_length 16 a
  have hlB:=dgs_length 16 b
  have h16:a / 65536 ^ 16=b / 65536 ^ 16:=by rw[Nat.div_eq_of_lt (by rw[B256_digits];exact ha),Nat.div_eq_of_lt (by rw[B256_digits];exact hb)]
  generalize dgs 16 a=D at *
  generalize dgs 16 b=E at *
  refine Fn.enter Tryz.func217 rfl rfl rfl ?_
  intro w hw
  repeat (first|refine Ta ?_|(refine Tm ?_;intro _)|refine WO.acall (hc:=hA) (k:=?_)|refine WO.acall (hc:=hB) (k:=?_)|refine WO.stores (s_row (hl:=hlA) (hc:=by rfl)) ?_|refine WO.stores (s_row (hl:=hlB) (hc:=by rfl)) ?_|refine Tc ?_|exact Tz)
  rename_i g2 g3 g5 g6
  refine WC.loopI (σ:=Nat) (fun j=>j≤16∧a / 65536 ^ j=b / 65536 ^ j) (fun j=>[(5,pt g5),(6,pt g6),(7,.int .i64 ((j:Int) - 1))]) (fun j=>[⟨g5,307,woC D⟩,⟨g6,307,woC E⟩]) (fun j=>j) 16 (fun j hj=>?_) ⟨Nat.le_refl _,h16⟩
  try dsimp only at hj ⊢
  obtain⟨hj,he⟩:=hj
  cases j with
  | zero =>
    rw[show cmpN a b=0 from cmpN_eq (by simpa using he)]
    repeat (first|refine Ta ?_|(refine Tm ?_;intro _)|refine Tc ?_|exact Tz)
  | succ i =>
    have hi:i<16:=by omega
    have h1:=dA i hi
    have h2:=dB i hi
    rw[show (((i+1:Nat):Int) - 1)=(i:Int) by omega]
    repeat (first|refine Ta ?_|(refine Tm ?_;intro _)|refine Tc ?_|exact Tz)
    refine WC.adraw 7 (k:=?_)
    repeat (first|refine Da ?_|refine DQ.does (fun s _=>l_word (hi:=by omega)) Dp.const ?_|refine Dc ?_)
    refine DQ.anil (k:=?_)
    intro sx _
    by_cases hlt:((D.getD i 0:Nat):Int)<((E.getD i 0:Nat):Int)
    · rw[show cmpN a b = -1 from cmpN_lt (lt_of_div (m:=65536 ^ i) (by omega))]
      repeat (first|refine Ta ?_|(refine Tm ?_;intro _)|refine Tc ?_|exact Tz)
      refine WC.dT rfl hlt ?_
      repeat (first|refine Ta ?_|(refine Tm ?_;intro _)|refine Tc ?_|exact Tz)
    · repeat (first|refine Ta ?_|(refine Tm ?_;intro _)|refine Tc ?_|exact Tz)
      refine WC.dF rfl hlt ?_
      repeat (first|refine Ta ?_|(refine Tm ?_;intro _)|refine Tc ?_|exact Tz)
      refine WC.adraw 7 (k:=?_)
      repeat (first|refine Da ?_|refine DQ.does (fun s _=>l_word (hi:=by omega)) Dp.const ?_|refine Dc ?_)
      refine DQ.anil (k:=?_)
      intro sx _
      by_cases hgt:((E.getD i 0:Nat):Int)<((D.getD i 0:Nat):Int)
      · rw[show cmpN a b=1 from cmpN_gt (lt_of_div (m:=65536 ^ i) (by omega))]
        repeat (first|refine Ta ?_|(refine Tm ?_;intro _)|refine Tc ?_|exact Tz)
        refine WC.dT rfl hgt ?_
        repeat (first|refine Ta ?_|(refine Tm ?_;intro _)|refine Tc ?_|exact Tz)
      · repeat (first|refine Ta ?_|(refine Tm ?_;intro _)|refine Tc ?_|exact Tz)
        refine WC.dF rfl hgt ?_
        repeat (first|refine Ta ?_|(refine Tm ?_;intro _)|refine Tc ?_|exact Tz)
        refine WX.metI i (hs:=⟨⟨by omega,by omega⟩,by show i<i+1;omega⟩)
theorem bit_of_digit {a i:Nat}:a / 65536 ^ (i / 16)%65536 / 2 ^ (i%16)%2=a / 2 ^ i%2:=by
  have e:a / 2 ^ i=a / 65536 ^ (i / 16) / 2 ^ (i%16):=by
    rw[Nat.div_div_eq_div_mul,show (65536:Nat)=2 ^ 16 by decide,← Nat.pow_mul,← Nat.pow_add]
    congr 2;omega
  rw[e]
  generalize a / 65536 ^ (i / 16)=x
  have hr:i%16<16:=Nat.mod_lt _ (by decide)
  generalize i%16=r at *
  match r,hr with
  | 0,_|1,_|2,_|3,_|4,_|5,_|6,_|7,_|8,_|9,_|10,_|11,_|12,_|13,_|14,_|15,_=>simp only[Nat.reducePow];omega
  | n+16,h=>omega
set_option maxHeartbeats 1000000 in
theorem r_Bit (a i:Nat) (ha:a<B256) (hi:i<256):Fn Tryz.prog 253 [numV a,.int .i64 (i:Int)] Tr (Is (.int .u64 ((bitN a i:Nat):Int))):=by
  have hA:=r_Digits a ha
  have hlA:=dgs_length 16 a
  have hd:(dgs 16 a).getD (i / 16) 0 / 2 ^ (i%16)%2=bitN a i:=by rw[dgs_getD (by omega),bit_of_digit];rfl
  have hR:bitN a i<2:=Nat.mod_lt _ (by decide)
  generalize bitN a i=R at *
  have hcv:IntKind.u64.wrap (R:Int)=(R:Int):=u64_in (by omega) (by omega)
  generalize dgs 16 a=D at *
  have hq:=quo_i64 i 16 (by omega)
  have hr:=rem_nat i 16
  have hs:=shr_u64 (D.getD (i / 16) 0) (i%16) (by omega)
  have hr2:=rem_nat (D.getD (i / 16) 0 / 2 ^ (i%16)) 2
  rw[hd] at hr2
  refine Fn.enter Tryz.func253 rfl rfl rfl ?_
  intro w hw
  have h1:decide ((i:Int)<0)=false:=by simp
  have h2:decide ((255:Int)<(i:Int))=false:=by simp;omega
  repeat (first|refine Ta ?_|(refine Tm ?_;intro _)|refine Tc ?_|exact Tz)
  rw[h1]
  repeat (first|refine Ta ?_|(refine Tm ?_;intro _)|refine Tc ?_|exact Tz)
  rw[h2]
  repeat (first|refine Ta ?_|(refine Tm ?_;intro _)|refine WO.acall (hc:=hA) (k:=?_)|refine WO.stores (s_row (hl:=hlA) (hc:=by rfl)) ?_|refine WO.does (does_quo rfl rfl (by decide) hq) ?_|refine WO.does (l_word (hi:=by omega)) ?_|refine Tc ?_|exact Tz)
  refine WO.does (does_rem rfl rfl (by decide) hr) ?_
  refine WO.does (does_shr rfl rfl (by omega) hs) ?_
  refine WO.does (does_rem rfl rfl (by decide) hr2) ?_
  repeat (first|refine Ta ?_|(refine Tm ?_;intro _)|refine WO.does (does_conv rfl hcv) ?_|refine Tc ?_|exact Tz)
end Sx
end Go.Proofs.YtmhligfnchegdaaGreatDoor
