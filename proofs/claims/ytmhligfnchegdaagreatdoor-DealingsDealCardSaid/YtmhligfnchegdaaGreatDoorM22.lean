/- Part 22 of the proof: NuE, ShL -/
import Derived.Test.YtmhligfnchegdaaGreatDoorM21
import Derived.Test.YtmhligfnchegdaaGreatDoorM10
import Derived.Test.YtmhligfnchegdaaGreatDoorM11
set_option linter.unusedSimpArgs false
set_option linter.unusedVariables false
namespace Go.Proofs.YtmhligfnchegdaaGreatDoor
open Go Go.RowKit
namespace Sx
attribute [local irreducible] wd DQ DQS WO WC WX
set_option maxHeartbeats 1000000 in
theorem c_GrowB (n:Nat) (h0:0<n) (hn:n≤1099511627776):Fn Tryz.prog 237 [.slice none 0 0,.int .i64 (n:Int)] Tr
    (Ex (fun s=>.slice (some ⟨s 0,0,none⟩) 0 (s 1)) (fun s=>[⟨s 0,5,room [] (s 1)⟩]) (fun s=>n≤s 1∧s 1<9223372036854775808)):=by
  refine Fn.enter Tryz.func237 rfl rfl rfl ?_
  intro w hw
  repeat (first|refine Ta ?_|(refine Tm ?_;intro _)|refine WO.does (does_cap rfl) ?_|refine Tc ?_|exact Tz)
  refine WC.dT rfl (by omega) ?_
  have hn0:((n:Int) - 0)=(n:Int):=by omega
  repeat (first|refine Ta ?_|(refine Tm ?_;intro _)|refine WO.does (does_cap rfl) ?_|refine WO.does (does_sliceTo (h:=0) rfl rfl (by decide)) ?_|refine Tc ?_|exact Tz)
  refine WO.eqv (v:=.int .i64 (n:Int)) (by simp) ?_
  refine WO.news (app_zeros (n:=n) rfl rfl h0 (by omega) (by decide) (by omega)) (fun s hs=>?_)
  obtain⟨h1,h2⟩:=hs
  generalize s 0=g
  generalize s 1=c at *
  repeat (first|refine Ta ?_|(refine Tm ?_;intro _)|refine WO.does (does_sliceTo (h:=0) rfl rfl (by omega)) ?_|refine Tc ?_|exact Tz)
  exact WX.ret1 rfl (rv_tmp rfl) [⟨g,5,room [] c⟩] (Lle.cons Pk.here (room_zero n c h1) Lle.nil) ⟨fun i=>if i=0 then g else c,rfl,rfl,h1,h2⟩
def ccK (v:Value) (n1 n2:Nat):Nat→List (Nat × Value)
  | 0=>[(0,v),(3,.int .i64 0),(9,v),(10,.int .i64 2),(11,.int .i64 0)]
  | 1=>[(0,v),(3,.int .i64 (n1:Int)),(9,v),(10,.int .i64 2),(11,.int .i64 1)]
  | _=>[(0,v),(3,.int .i64 ((n1+n2:Nat):Int)),(9,v),(10,.int .i64 2),(11,.int .i64 2)]
def cdK (v:Value) (g c n1 n2:Nat):Nat→List (Nat × Value)
  | 0=>[(6,.slice (some ⟨g,0,none⟩) 0 c),(25,v),(26,.int .i64 2),(27,.int .i64 0)]
  | 1=>[(6,.slice (some ⟨g,0,none⟩) n1 c),(25,v),(26,.int .i64 2),(27,.int .i64 1)]
  | _=>[(6,.slice (some ⟨g,0,none⟩) (n1+n2) c),(25,v),(26,.int .i64 2),(27,.int .i64 2)]
def cdL (g c:Nat) (X1 X2:List Nat):Nat→List Ent
  | 0=>[⟨g,5,room [] c⟩]
  | 1=>[⟨g,5,room X1 (c - X1.length)⟩]
  | _=>[⟨g,5,room (X1++X2) (c - X1.length - X2.length)⟩]
set_option maxHeartbeats 1000000 in
theorem c_ConcatB (X1 X2:List Nat) (p1 p2:Option Addr) (c1 c2 S c:Nat) (h0:0<X1.length+X2.length) (hm:X1.length+X2.length≤1099511627776) :
    Fn Tryz.prog 201 [.slice (some ⟨S,0,none⟩) 2 c] (fun w=>Seg w S 0 [.slice p1 X1.length c1,.slice p2 X2.length c2]∧Rd (.slice p1 X1.length c1) X1.length (byC X1) w∧Rd (.slice p2 X2.length c2) X2.length (byC X2) w)
      (NewL 5 (X1++X2).length (byC (X1++X2))):=by
  have hlen:(X1++X2).length=X1.length+X2.length:=List.length_append
  have hG:=c_GrowB (X1.length+X2.length) h0 hm
  have hbm:byC (X1++X2)=byC X1++byC X2:=byC_append X1 X2
  rw[hlen]
  refine Fn.enter Tryz.func201 rfl rfl rfl ?_
  intro w hw
  obtain⟨hS,hX1,hX2⟩:=hw
  repeat (first|refine Ta ?_|(refine Tm ?_;intro _)|refine Tc ?_|exact Tz)
  refine WC.loopI (σ:=Nat) (fun k=>k≤2) (ccK (.slice (some ⟨S,0,none⟩) 2 c) X1.length X2.length) (fun _=>[]) (fun k=>2 - k) 0 (fun k hk=>?_) (by decide)
  · match k,hk with
    | 0,_ =>
      simp only[ccK]
      repeat (first|refine Ta ?_|(refine Tm ?_;intro _)|refine WO.does (does_add (r:=(X1.length:Int)) rfl rfl (i64_in' (by omega) (by omega) (by omega))) ?_|refine Tc ?_|exact Tz)
      exact WX.metI 1 (hs:=⟨by decide,by decide⟩)
    | 1,_ =>
      simp only[ccK]
      repeat (first|refine Ta ?_|(refine Tm ?_;intro _)|refine WO.does (does_add (r:=((X1.length+X2.length:Nat):Int)) rfl rfl (i64_in' (by omega) (by omega) (by omega))) ?_|refine Tc ?_|exact Tz)
      exact WX.metI 2 (hs:=⟨by decide,by decide⟩)
    | 2,_ =>
      simp only[ccK]
      repeat (first|refine Ta ?_|(refine Tm ?_;intro _)|refine Tc ?_|exact Tz)
      refine WO.acallX (f:=237) (hc:=hG) (hR:=fun _ _=>trivial) (k:=fun s hs=>?_)
      obtain⟨h1,h2⟩:=hs
      generalize s 0=g
      generalize s 1=c' at *
      repeat (first|refine Ta ?_|(refine Tm ?_;intro _)|refine Tc ?_|exact Tz)
      refine WC.loopI (σ:=Nat) (fun k=>k≤2) (cdK (.slice (some ⟨S,0,none⟩) 2 c) g c' X1.length X2.length) (cdL g c' X1 X2) (fun k=>2 - k) 0 (fun k hk=>?_) (by decide)
      match k,hk with
      | 0,_ =>
        simp only[cdK,cdL]
        repeat (first|refine Ta ?_|(refine Tm ?_;intro _)|refine Tc ?_|exact Tz)
        refine WO.both (app_in (n:=X1.length) (xs:=byC X1) (l:=X1.length) rfl rfl hX1.rds (byC_length X1) (by omega) (byC_one X1) Rp.here (room_over (A:=[]) (X:=X1) (by omega)) (by rw[room_length];simp;omega) (by decide) (by omega)) ?_
        repeat (first|refine Ta ?_|(refine Tm ?_;intro _)|refine Tc ?_|exact Tz)
        exact WX.metI 1 (hs:=⟨by decide,by decide⟩)
      | 1,_ =>
        simp only[cdK,cdL]
        repeat (first|refine Ta ?_|(refine Tm ?_;intro _)|refine Tc ?_|exact Tz)
        refine WO.both (app_in (n:=X2.length) (xs:=byC X2) (l:=X1.length+X2.length) rfl rfl hX2.rds (byC_length X2) (by omega) (byC_one X2) Rp.here (room_over (A:=X1) (X:=X2) (by omega)) (by rw[room_length];omega) (by decide) (by omega)) ?_
        repeat (first|refine Ta ?_|(refine Tm ?_;intro _)|refine Tc ?_|exact Tz)
        exact WX.metI 2 (hs:=⟨by decide,by decide⟩)
      | 2,_ =>
        simp only[cdK,cdL]
        repeat (first|refine Ta ?_|(refine Tm ?_;intro _)|refine Tc ?_|exact Tz)
        exact WX.retL (cs:=byC (X1++X2)) h1 h2 Pk.here
set_option maxHeartbeats 1000000 in
theorem c_PutBytes (B X:List Nat) (p q:Option Addr) (c d:Nat) (hB:B.length≤274877906944) (hX:X.length≤274877906944) :
    Fn Tryz.prog 112 [.slice p B.length c,.slice q X.length d] (fun w=>Rd (.slice p B.length c) B.length (byC B) w∧Rd (.slice q X.length d) X.length (byC X) w)
      (NewL 5 (B++be 4 X.length++X).length (byC (B++be 4 X.length++X))):=by
  have h4:=c_Put B X.length 4 c p (by omega) (by omega)
  have hl:(B++be 4 X.length).length=B.length+4:=by rw[List.length_append,be_length]
  have hC:=fun g S=>c_ConcatB (B++be 4 X.length) X (some ⟨g,0,none⟩) q (B++be 4 X.length).length d S 2 (by omega) (by omega)
  have hu:IntKind.u64.wrap ((X.length:Nat):Int)=((X.length:Nat):Int):=u64_in (by omega) (by omega)
  refine Fn.enter Tryz.func112 rfl rfl rfl ?_
  intro w hw
  obtain⟨hw1,hw2⟩:=hw
  repeat (first|refine Ta ?_|(refine Tm ?_;intro _)|refine WO.does (does_conv rfl hu) ?_|refine Tc ?_|exact Tz)
  refine WO.acallN (hc:=h4) (hR:=fun w1 hm=>hw1.rds.rd hm) (k:=fun g3=>?_)
  repeat (first|refine Ta ?_|(refine Tm ?_;intro _)|(refine WO.makes (makes_build (cs:=[.slice (some ⟨g3,0,none⟩) (B++be 4 X.length).length (B++be 4 X.length).length,.slice q X.length d]) rfl (by decide) rfl) ?_;intro g4)|refine Tc ?_|exact Tz)
  refine WO.acallL (hc:=hC g3 g4) (hR:=fun w1 hm=>⟨Hs.here.seg hm,Rd.of ((Hs.there Hs.here).seg hm),hw2.rds.rd hm⟩) (k:=fun g c r h1 h2=>?_)
  repeat (first|refine Ta ?_|(refine Tm ?_;intro _)|refine Tc ?_|exact Tz)
  exact WX.retL h1 h2 Pk.here
end Sx
end Go.Proofs.YtmhligfnchegdaaGreatDoor
namespace Go.Proofs.YtmhligfnchegdaaGreatDoor
open Go Go.RowKit Go.BigFrame
namespace Sx
attribute [local irreducible] wd DQ DQS WO WC WX
theorem takes_lt {b:List Nat}:∀ q,∀ x∈Sha.takes Sha.H0 b q,x<4294967296
  | 0=>by simp only[Sha.takes];decide
  | q+1=>addW_lt
structure Hd (m s buf:List Nat) (n:Nat):Prop where
  held:Held m s buf n
  s8:s.length=8
  sl:∀ x∈s,x<4294967296
  bl:∀ x∈buf,x<256
theorem Hd.new:Hd [] Sha.H0 (List.replicate 64 0) 0:=⟨Held.nil rfl,rfl,by decide,fun x hx=>by have:=List.eq_of_mem_replicate hx;omega⟩
theorem Hd.wr {m s buf X:List Nat} {n:Nat} (h:Hd m s buf n) (hX:∀ x∈X,x<256):Hd (m++X) (wr s buf n X).1 (wr s buf n X).2.1 (wr s buf n X).2.2:=by
  have hH:=Held.wr X.length (Nat.le_refl _) h.held
  exact⟨hH,by rw[hH.s];exact takes_len rfl _,by rw[hH.s];exact takes_lt _,wr_buf X.length (Nat.le_refl _) h.bl hX⟩
theorem Hd.write {m s buf X:List Nat} {n:Nat} (h:Hd m s buf n) (hX:∀ x∈X,x<256) (hn:m.length+X.length≤1152921504606846976) (g c:Nat) (p:Option Addr) :
    ∃ s' b' n',Hd (m++X) s' b' n'∧FnM Tryz.prog 111 [pt g,.slice p X.length c] g 263 (sumC s buf n) (sumC s' b' n') (RdN g (.slice p X.length c) X.length (byC X)) (.int .i64 0) :=
  ⟨_,_,_,h.wr hX,c_SumWrite g c p s buf n X hX h.s8 h.sl h.held.len h.bl (by rw[h.held.n];exact hn)⟩
theorem strB_lt (s:ByteArray):∀ x∈strB s,x<256:=by
  intro x hx
  unfold strB at hx
  obtain⟨b,_,rfl⟩:=List.mem_map.1 hx
  exact b.toNat_lt
theorem strB_length (s:ByteArray):(strB s).length=s.size:=by simp[strB]
theorem app_lt {X Y:List Nat} {b:Nat} (h:∀ x∈X,x<b) (k:∀ x∈Y,x<b):∀ x∈X++Y,x<b:=fun x hx=>(List.mem_append.1 hx).elim (h x) (k x)
set_option maxHeartbeats 2000000 in
theorem c_hOf (s:ByteArray) (vs:List Value) (Ps:List (List Nat)) (B O C:Nat) (hP:∀ X∈Ps,∀ x∈X,x<256) (hb:(hBytes (strB s) Ps).length≤1152921504606840000) (hs:s.size≤274877906944) :
    Fn Tryz.prog 24 [.string s,.slice (some ⟨B,O,none⟩) vs.length C] (fun w=>Seg w B O vs∧Parts vs Ps w) (Is (.agg (byC (hOf (strB s) Ps)).toArray)):=by
  have hsz:=strB_length s
  have hbl:(hBytes (strB s) Ps).length=4+s.size+4+(hBody Ps).length:=by unfold hBytes hHead;simp only[List.length_append,be_length,hsz]
  have hHd:hHead (strB s) Ps.length=[]++([]++be 4 (strB s).length++strB s)++([]++be 4 Ps.length):=by simp[hHead]
  refine Fn.enter Tryz.func24 rfl rfl rfl ?_
  intro w hw
  obtain⟨hw1,hw2⟩:=hw
  have hN:=hw2.1
  have hNs:Ps.length*4≤(hBody Ps).length:=by
    clear hb hbl hHd hw2 hN hP
    induction Ps with
    | nil=>simp
    | cons X Ps ih=>simp only[hBody,List.flatMap_cons,List.length_append,List.length_cons,be_length] at ih ⊢;omega
  repeat (first|refine Ta ?_|(refine Tm ?_;intro _)|refine Tc ?_|exact Tz)
  rename_i gO
  refine WO.acallX (f:=110) (hc:=c_SumNew) (hR:=fun _ _=>trivial) (k:=fun x _=>?_)
  generalize x 0=gS
  repeat (first|refine Ta ?_|(refine Tm ?_;intro _)|refine Tc ?_|exact Tz)
  refine WO.news (news_str (by rfl) (by omega)) (fun x hx=>?_)
  obtain⟨hx1,hx2⟩:=hx
  generalize x 0=gb at *
  generalize x 1=cb at *
  have hs' : (strB s).length≤274877906944:=by omega
  have hx1' : (strB s).length≤cb:=by omega
  rw[← hsz]
  have hPB:=c_PutBytes [] (strB s) none (some ⟨gb,0,none⟩) 0 cb (by decide) hs'
  refine WO.acallL (hc:=hPB) (hR:=fun w1 hm=>⟨Rd.nil,(RdP.own hm Hs.here hx1' hx2).rd⟩) (k:=fun gp cp r h1 h2=>?_)
  refine WO.ndp (fun hnd=>?_)
  have hne:gp≠gS:=by simp at hnd;exact hnd.1.2.1
  clear hnd
  have hXl:∀ x∈[]++be 4 (strB s).length++strB s,x<256:=app_lt (app_lt (by simp) be_lt) (strB_lt s)
  obtain⟨s1,b1,n1,hH1,hW1⟩:=Hd.new.write hXl (by simp[be_length];omega) gS cp (some ⟨gp,0,none⟩)
  refine WO.callM (hc:=hW1) rfl (by repeat (first|exact Rp.here|apply Rp.there)) (fun w1 hm=>RdN.own hm Hs.here hne h1 h2) (by decide) ?_ rfl rfl
  have hcv:IntKind.u64.wrap ((vs.length:Nat):Int)=((vs.length:Nat):Int):=u64_in (by omega) (by omega)
  have hP4:=c_Put [] Ps.length 4 0 none (by decide) (by decide)
  rw[← hN] at hP4
  repeat (first|refine WO.does (does_conv rfl hcv) ?_|refine Ta ?_|(refine Tm ?_;intro _)|refine Tc ?_|exact Tz)
  refine WO.acallN (hc:=hP4) (hR:=fun w1 hm=>Rd.nil) (k:=fun g4=>?_)
  refine WO.ndp (fun hnd=>?_)
  have hne4:g4≠gS:=by simp at hnd;exact hnd.1.2.2.1
  clear hnd
  have hXl4:∀ x∈[]++be 4 vs.length,x<256:=app_lt (by simp) be_lt
  obtain⟨s2,b2,n2,hH2,hW2⟩:=hH1.write hXl4 (by simp[be_length];omega) gS ([]++be 4 vs.length).length (some ⟨g4,0,none⟩)
  refine WO.callM (hc:=hW2) rfl (by repeat (first|exact Rp.here|apply Rp.there)) (fun w1 hm=>RdN.own0 hm Hs.here hne4 (Nat.le_refl _) (by simp[be_length])) (by decide) ?_ rfl rfl
  repeat (first|refine Ta ?_|(refine Tm ?_;intro _)|refine Tc ?_|exact Tz)
  rw[hN,← hHd] at hH2
  clear hW1 hW2 hH1 hP4 hPB hXl hXl4
  refine WC.loopI (σ:=Nat × List Nat × List Nat × Nat) (fun x=>x.1≤vs.length∧Hd (hHead (strB s) Ps.length++hBody (Ps.take x.1)) x.2.1 x.2.2.1 x.2.2.2)
    (fun x=>[(4,pt gO),(5,pt gS),(20,.slice (some ⟨B,O,none⟩) vs.length C),(21,.int .i64 (vs.length:Int)),(22,.int .i64 (x.1:Int))])
    (fun x=>[⟨gS,263,sumC x.2.1 x.2.2.1 x.2.2.2⟩,⟨gO,82,List.replicate 32 (.int .u8 0)⟩]) (fun x=>vs.length - x.1) (0,s2,b2,n2) (fun x hx=>?_) ⟨Nat.zero_le _,by simpa [hBody] using hH2⟩
  clear hH2
  obtain⟨i,s3,b3,n3⟩:=x
  obtain⟨hi,hH⟩:=hx
  dsimp only at hi hH ⊢
  repeat (first|refine Ta ?_|(refine Tm ?_;intro _)|refine Tc ?_|exact Tz)
  by_cases hlt:i<vs.length
  · refine WC.dT rfl (by omega) ?_
    obtain⟨v,hv⟩ : ∃ v,vs[i]?=some v:=⟨_,List.getElem?_eq_getElem hlt⟩
    obtain⟨X,hX⟩ : ∃ X,Ps[i]?=some X:=⟨_,List.getElem?_eq_getElem (by omega)⟩
    have hR:=hw2.2 i v X hv hX
    have hXb:=hP X (List.mem_of_getElem? hX)
    have hle:=hBody_le hX
    have hle2:(hHead (strB s) Ps.length++hBody (Ps.take i)).length+4+X.length≤1152921504606840000:=by
      rw[List.length_append];unfold hHead;simp only[List.length_append,be_length,hsz];omega
    have hnx:=hBody_take hX
    have hcx:IntKind.u64.wrap ((X.length:Nat):Int)=((X.length:Nat):Int):=u64_in (by omega) (by omega)
    have hi1:IntKind.i64.wrap (((i:Nat):Int)+1)=((i+1:Nat):Int):=i64_in' (by omega) (by omega) (by omega)
    have hP4:=c_Put [] X.length 4 0 none (by decide) (by decide)
    have hXl4:∀ x∈[]++be 4 X.length,x<256:=app_lt (by simp) be_lt
    have hRr:=hR
    obtain⟨p,c,rfl,hc1,hc2,hpc⟩:=hR
    have hvs:vs[O+i - O]?=some (.slice p X.length c):=by rw[Nat.add_sub_cancel_left];exact hv
    repeat (first|refine WO.does (does_indexSlice (o':=O+i) rfl rfl hlt (by omega)) ?_|refine WO.does (a_loadF1 (hs:=hw1) (hle:=Nat.le_add_right _ _) (hc:=hvs)) ?_|refine WO.does (does_conv rfl hcx) ?_|refine Ta ?_|(refine Tm ?_;intro _)|refine Tc ?_|exact Tz)
    refine WO.acallN (hc:=hP4) (hR:=fun w1 hm=>Rd.nil) (k:=fun g5=>?_)
    refine WO.ndp (fun hnd=>?_)
    have hne5:g5≠gS:=by simp at hnd;exact hnd.1.1
    clear hnd
    obtain⟨s4,b4,n4,hH4,hW4⟩:=hH.write hXl4 (by simp only[List.nil_append,be_length];omega) gS ([]++be 4 X.length).length (some ⟨g5,0,none⟩)
    refine WO.callM (hc:=hW4) rfl (by repeat (first|exact Rp.here|apply Rp.there)) (fun w1 hm=>RdN.own0 hm Hs.here hne5 (Nat.le_refl _) (by simp[be_length])) (by decide) ?_ rfl rfl
    repeat (first|refine Ta ?_|(refine Tm ?_;intro _)|refine Tc ?_|exact Tz)
    refine WO.mine (fun hmn=>?_)
    have hgS:w.heap.size≤gS:=(hmn _ (List.mem_cons_of_mem _ (List.mem_cons_self ..))).resolve_right (by simp)
    clear hmn
    obtain⟨s5,b5,n5,hH5,hW5⟩:=hH4.write hXb (by simp only[List.nil_append,List.length_append,be_length] at hle2 ⊢;omega) gS c p
    refine WO.callM (hc:=hW5) rfl (by repeat (first|exact Rp.here|apply Rp.there)) (fun w1 hm=>hRr.rdN hgS hm) (by decide) ?_ rfl rfl
    repeat (first|refine WO.does (does_add rfl rfl hi1) ?_|refine Ta ?_|(refine Tm ?_;intro _)|refine Tc ?_|exact Tz)
    rw[List.nil_append,List.append_assoc,List.append_assoc,← List.append_assoc (hBody _),← hnx] at hH5
    exact WX.metI (i+1,s5,b5,n5) (hs:=⟨⟨by show i+1≤vs.length;omega,hH5⟩,by show vs.length - (i+1)<vs.length - i;omega⟩)
  · have hie:i=Ps.length:=by omega
    rw[hie,List.take_length] at hH
    refine WC.dF rfl (by omega) ?_
    repeat (first|refine Ta ?_|(refine Tm ?_;intro _)|refine Tc ?_|exact Tz)
    refine WO.acallR (hc:=c_SumHash gS _ s3 b3 n3 hH.held hH.s8 hH.sl hH.bl (by rw[hH.held.n];have:=hbl;unfold hBytes at this;omega)) (hR:=fun w1 hm=>Hs.here.seg hm) (k:=?_)
    have hout:(byC (hOf (strB s) Ps)).length=32:=by
      rw[byC_length];unfold hOf Sha.sum;rw[outs_length,takes_len rfl]
    have hfold:Sha.sum (hHead (strB s) Ps.length++hBody Ps)=hOf (strB s) Ps:=rfl
    rw[hfold]
    repeat (first|refine WO.stores (a_store (vs:=byC (hOf (strB s) Ps)) (cs':=byC (hOf (strB s) Ps)) (hl:=hout) (h1:=byC_one _) (hc:=over_all (by rw[hout];rfl)) (hle:=by rw[hout];rfl)) ?_|refine Ta ?_|(refine Tm ?_;intro _)|refine Tc ?_|exact Tz)
    exact WX.aret1 (hr:=a_rvc (vs:=byC (hOf (strB s) Ps)) (hc:=cut_all hout) (hl:=hout)) (hp:=rfl)
end Sx
end Go.Proofs.YtmhligfnchegdaaGreatDoor
