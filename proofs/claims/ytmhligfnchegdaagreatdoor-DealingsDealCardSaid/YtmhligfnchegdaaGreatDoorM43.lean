/- Part 43 of the proof: DfF, BkA -/
import Derived.Test.YtmhligfnchegdaaGreatDoorM41
import Derived.Test.YtmhligfnchegdaaGreatDoorM42
import Derived.Test.YtmhligfnchegdaaGreatDoorM38
set_option linter.unusedSimpArgs false
set_option linter.unusedVariables false
namespace Go.Proofs.YtmhligfnchegdaaGreatDoor
open Go Go.RowKit Go.BigFrame
namespace Sx
attribute [local irreducible] wd DQ DQS WO WC WX
def npL (g:Nat) (B r:List Value):Nat→List Ent
  | 0=>[]
  | _+1=>[⟨g,87,B++r⟩]
theorem naL_pos {g:Nat} {X R:List Value} {n:Nat} (h:0<n):naL g X R n=[⟨g,24,X++R⟩]:=by
  obtain⟨k,rfl⟩ : ∃ k,n=k+1:=⟨n - 1,by omega⟩
  rfl
theorem npL_pos {g:Nat} {X R:List Value} {n:Nat} (h:0<n):npL g X R n=[⟨g,87,X++R⟩]:=by
  obtain⟨k,rfl⟩ : ∃ k,n=k+1:=⟨n - 1,by omega⟩
  rfl
def grOk (z:Nat) (B:List Value) (c:Nat) (r:List Value) (i:Nat):Prop:=0<i→(B++r).length=c*z∧c<9223372036854775808∧i≤c
def NewD (ep d n:Nat) (VB YB PB:List Value) (sg:Nat × Nat):Value→List Ent→Prop:=fun v N=>∃ gV cV rV gY cY rY gP cP rP,
  v=.tuple #[dlV ep d (.slice (some ⟨gV,0,none⟩) n cV) (.slice (some ⟨gY,0,none⟩) n cY) (.slice (some ⟨gP,0,none⟩) n cP) sg.1 sg.2,.int .i64 0] ∧
    N=[⟨gP,87,PB++rP⟩,⟨gY,24,YB++rY⟩,⟨gV,24,VB++rV⟩]
section
variable (p q g h:Nat) (f sec:Int) (pt:Option Addr) (c:Nat) (N:List (Nat × Nat)) (ep d x:Nat) (pz:Option Addr) (cz:Nat) (l:List Nat)
structure GSt where
  i:Nat
  gV:Nat
  cV:Nat
  rV:List Value
  gY:Nat
  cY:Nat
  rY:List Value
  gP:Nat
  cP:Nat
  rP:List Value
set_option maxHeartbeats 8000000 in
theorem r15_DealY (hp:p<B256) (hq:q<B256) (hg:g<B256) (hh:h<B256) (hN:NumsOk N) (hNl:N.length≤100) (hl:∀ a∈l,a<B256) (hn:l.length≤100)
    (hf1 : -9223372036854775808≤f) (hf2:f≤9223372036854775807) (hs1 : -9223372036854775808≤sec) (hs2:sec≤9223372036854775807) (hd:d<256) (hx:x<B256) (hep:ep<18446744073709551616)
    (hA:dealB p q g h f sec N d l x=true) :
    Fn Tryz.prog 8 [stV p q g h f sec (.slice pt N.length c),.int .u64 (ep:Int),.int .u8 (d:Int),.slice pz l.length cz,numV x] (fun w=>RdF keyC (.slice pt N.length c) N w∧RdF numC (.slice pz l.length cz) l w)
      (NewD ep d N.length ((dVs p q g l N.length).flatMap numC) ((dYs p q l N N.length).flatMap numC) ((dPs p q g l N ep d x N.length).flatMap pfC) (dSg p q g l N ep d x N.length)):=by
  have hS:=r15_Setting p q g h f sec pt c N hp hq hg hh hN (by omega) hf1 hf2 hs1 hs2
  have hNd:=r15_Node p q g h f sec pt c N d hd (by omega)
  unfold dealB at hA
  rw[Bool.and_eq_true,Bool.and_eq_true,Bool.and_eq_true] at hA
  obtain⟨⟨⟨e1,e2⟩,e3⟩,e4⟩:=hA
  rw[e1] at hS
  rw[e2] at hNd
  have hsp:=setB_spec e1
  have hP:=r15_Poly p q g h f sec (.slice pt N.length c) l pz cz hl (by omega) hq ⟨hsp.2.2.2.1,by omega,hsp.2.2.2.2.2.1⟩
  rw[e3] at hP
  have hall:allN q l=true:=by rw[Bool.and_eq_true] at e3;exact e3.2
  obtain⟨n1,n2⟩:=nodeB_spec e2
  have hlt:d - 1<N.length:=by omega
  obtain⟨k,hk⟩ : ∃ k,N[d - 1]?=some k:=⟨_,List.getElem?_eq_getElem hlt⟩
  have hkb:=hN k (List.mem_of_getElem? hk)
  have hEx:=r13_Exponent p q g h x hx hq
  rw[secB_may e4] at hEx
  have hPw:=r15_power p q g h g x hg hx hp
  have hyl:exN p g x<B256:=exN_lt hp
  have hne:decide (exN p g x≠k.1)=false:=by
    rw[sgK_get hk,secB_ex] at e4
    simp only[Bool.and_eq_true,decide_eq_true_eq] at e4
    exact decide_eq_false (fun hn=>hn e4.2)
  generalize exN p g x=y0 at *
  have hsub:IntKind.u8.wrap ((d:Int) - 1)=((d - 1:Nat):Int):=u8_in' (by omega) (by omega) (by omega)
  have hSh:=r11_Of p q g h l pz cz N.length hl (by omega) hq hall hsp.1 hsp.2.1 hsp.2.2.1
  have hn1:=hsp.1
  have hn7:=hsp.2.1
  have hq0:0<q:=by have:=hsp.2.2.1;omega
  clear e1 e2 e3 e4 hsp hall n1 n2 hf1 hf2 hs1 hs2 hn
  refine Fn.enter Tryz.func8 rfl rfl rfl ?_
  intro w hw
  obtain⟨hwK,hwY⟩:=hw
  obtain⟨b,o,rfl,_,hs⟩:=id hwK |>.get hk
  repeat (first|refine Ta ?_|(refine Tm ?_;intro _)|refine WO.acallR (hc:=hS) (hR:=fun w hm=>(hwK.mod hm.mod).rdK) (k:=?_)|refine WO.acall (hc:=hNd) (k:=?_)|refine WO.acallR (hc:=hP) (hR:=fun w hm=>hwY.mod hm.mod) (k:=?_)|refine Tc ?_|exact Tz)
  rename_i gS gX gD gG
  refine WC.adraw 19 (k:=?_)
  iterate 19 (first|refine Da ?_|refine DQ.acall (hc:=hEx) (k:=?_)|refine DQ.acall (hc:=hPw) (k:=?_)|refine DQ.does (fun s _=>does_sub rfl rfl hsub) Dp.const ?_|refine DQ.does (fun s _=>does_indexSlice (i:=d - 1) (o':=o+(d - 1)*8) rfl rfl hlt rfl) Dp.const ?_|refine DQ.does (fun s _=>a_loadF (vs:=numC k.1) (hs:=hs) (hle:=by omega) (hc:=cut_key1 hk)) Dp.const ?_|refine DQ.does (fun s _=>a_neqNumV rfl rfl hyl hkb.1 hne) Dp.const ?_|refine Dc ?_)
  refine DQ.anil (k:=?_)
  intro sx _
  repeat (first|refine Ta ?_|(refine Tm ?_;intro _)|refine Tc ?_|exact Tz)
  rename_i gE
  refine WO.calls (fs:=[]) (cs:=[]) hSh rfl rfl rfl (fun w1 hm=>hwY.mod hm.mod) (fun u N' ⟨gL,cL,rL,e1,e2⟩=>?_)
  subst e1 e2
  try dsimp only[List.cons_append,List.nil_append]
  clear hk hkb hne hyl hPw hEx hsub hS hNd hP hSh sx
  repeat (first|refine Ta ?_|(refine Tm ?_;intro _)|refine Tc ?_|exact Tz)
  refine WC.loopI (σ:=GSt) (fun s=>s.i≤N.length∧grOk 4 (((List.range s.i).map (dV p q g l)).flatMap numC) s.cV s.rV s.i∧grOk 4 (((List.range s.i).map (dY p q l N)).flatMap numC) s.cY s.rY s.i∧grOk 8 (((List.range s.i).map (dP p q g l N ep d x)).flatMap pfC) s.cP s.rP s.i)
    (fun s=>[(1,.int .u64 (ep:Int)),(2,.int .u8 (d:Int)),(5,pt gS),(9,pt gX),(10,pt gD),(12,pt gG),(13,pt gE),(14,.slice (some ⟨gL,0,none⟩) N.length cL),(16,.int .i64 (s.i:Int))])
    (fun s=>⟨gE,40,dlC ep d (agV s.gV s.cV s.i s.i) (agV s.gY s.cY s.i s.i) (agV s.gP s.cP s.i s.i) 0 0⟩::⟨gL,24,(shL q l N.length).flatMap numC++rL⟩::⟨gG,26,grpC p q g h⟩::⟨gX,24,numC x⟩::⟨gS,29,stC p q g h f sec (.slice (some ⟨b,o,none⟩) N.length c)⟩::⟨gD,40,dlC 0 0 (.slice none 0 0) (.slice none 0 0) (.slice none 0 0) 0 0⟩ ::
      (naL s.gV (((List.range s.i).map (dV p q g l)).flatMap numC) s.rV s.i++(naL s.gY (((List.range s.i).map (dY p q l N)).flatMap numC) s.rY s.i++npL s.gP (((List.range s.i).map (dP p q g l N ep d x)).flatMap pfC) s.rP s.i)))
    (fun s=>N.length - s.i) ⟨0,0,0,[],0,0,[],0,0,[]⟩ (fun s hi=>?_) ⟨Nat.zero_le _,fun h=>absurd h (by decide),fun h=>absurd h (by decide),fun h=>absurd h (by decide)⟩
  obtain⟨i,gV,cV,rV,gY,cY,rY,gP,cP,rP⟩:=s
  try dsimp only at hi ⊢
  obtain⟨hi,oV,oY,oP⟩:=hi
  by_cases hli:i<N.length
  · obtain⟨k2,hk2⟩ : ∃ k,N[i]?=some k:=⟨_,List.getElem?_eq_getElem hli⟩
    have hkb:=hN k2 (List.mem_of_getElem? hk2)
    have hky:=ky_get hk2
    have hadd2:IntKind.i64.wrap ((i:Int)+1)=((i+1:Nat):Int):=i64_in' (by omega) (by omega) (by omega)
    have hcv:IntKind.u8.wrap ((i+1:Nat):Int)=((i+1:Nat):Int):=u8_in (by omega) (by omega)
    have hsb:shN q l i<B256:=Nat.lt_trans (shN_lt hq0) hq
    have hE1:=r15_power p q g h g (shN q l i) hg hsb hp
    have hE2:=r15_power p q g h k2.2 (shN q l i) hkb.2 hsb hp
    rw[show exN p g (shN q l i)=dV p q g l i from rfl] at hE1
    rw[show exN p k2.2 (shN q l i)=dY p q l N i by unfold dY;rw[hky]] at hE2
    have hPd:dP p q g l N ep d x i=pfN p q g (shN q l i) k2.2 (drawN q x (dH ep d (dV p q g l i) (dY p q l N i) i)):=by unfold dP;rw[hky]
    have hHlt:∀ b∈dH ep d (dV p q g l i) (dY p q l N i) i,b<256:=hOf_lt _ _
    have hHl:(dH ep d (dV p q g l i) (dY p q l N i) i).length=32:=hOf_len' _ _
    have hDr:=r15_Draw p q g h x (dH ep d (dV p q g l i) (dY p q l N i) i) hx hq hq0 hHlt hHl
    have hPr:=r14_Prove p q g h sShare (shN q l i) g k2.2 (drawN q x (dH ep d (dV p q g l i) (dY p q l N i) i)) hp hq hsb hg hkb.2 (drawN_lt hq0 hq) (by decide)
    simp only[prV] at hPr
    rw[show okV (prB p q (shN q l i) g k2.2 (drawN q x (dH ep d (dV p q g l i) (dY p q l N i) i))) (prC p q (strB sShare) (shN q l i) g k2.2 (drawN q x (dH ep d (dV p q g l i) (dY p q l N i) i)))=(dP p q g l N ep d x i).1 by rw[hPd];rfl,
      show okV (prB p q (shN q l i) g k2.2 (drawN q x (dH ep d (dV p q g l i) (dY p q l N i) i))) ((drawN q x (dH ep d (dV p q g l i) (dY p q l N i) i)+shN q l i*prC p q (strB sShare) (shN q l i) g k2.2 (drawN q x (dH ep d (dV p q g l i) (dY p q l N i) i))%q)%q)=(dP p q g l N ep d x i).2 by rw[hPd];rfl] at hPr
    have hcL:cut ((shL q l N.length).flatMap numC++rL) (0+i*4) 4=numC (shN q l i):=by rw[Nat.zero_add];exact cut_flatL numC_len (shL_get hli)
    have hAb:=r15_About ep d (i+1) hep hd (by omega)
    have hLo:=fun v=>r_PutLong [] v 0 none (by decide)
    simp only[List.nil_append] at hLo
    have hO:=fun g1 c1 g2 c2 g3 c3 gR=>r6_Of sShare [.slice (some ⟨g1,0,none⟩) 10 c1,.slice (some ⟨g2,0,none⟩) 32 c2,.slice (some ⟨g3,0,none⟩) 32 c3] [abL ep d (i+1),be 32 (dV p q g l i),be 32 (dY p q l N i)] gR 0 3 (by
      intro X hX
      simp only[List.mem_cons,List.not_mem_nil,or_false] at hX
      rcases hX with rfl|rfl|rfl
      · exact abL_lt
      · exact be_lt
      · exact be_lt) (by
      simp only[hBytes,hHead,hBody,List.flatMap_cons,List.flatMap_nil,List.length_append,be_length,strB_length,List.length_nil,abL_length]
      decide)
    rw[show hOf (strB sShare) [abL ep d (i+1),be 32 (dV p q g l i),be 32 (dY p q l N i)]=dH ep d (dV p q g l i) (dY p q l N i) i from rfl] at hO
    have hHlen:(byC (dH ep d (dV p q g l i) (dY p q l N i) i)).length=32:=by rw[byC_length,hHl]
    have hstV:((List.range i).map (dV p q g l)).flatMap numC++numC (dV p q g l i)=((List.range (i+1)).map (dV p q g l)).flatMap numC:=by rw[range_take_succ,List.flatMap_append];simp
    have hstY:((List.range i).map (dY p q l N)).flatMap numC++numC (dY p q l N i)=((List.range (i+1)).map (dY p q l N)).flatMap numC:=by rw[range_take_succ,List.flatMap_append];simp
    have hstP:((List.range i).map (dP p q g l N ep d x)).flatMap pfC++pfC (dP p q g l N ep d x i)=((List.range (i+1)).map (dP p q g l N ep d x)).flatMap pfC:=by rw[range_take_succ,List.flatMap_append];simp
    have hlV:(((List.range i).map (dV p q g l)).flatMap numC).length=i*4:=by rw[flat_length numC_len,List.length_map,List.length_range]
    have hlY:(((List.range i).map (dY p q l N)).flatMap numC).length=i*4:=by rw[flat_length numC_len,List.length_map,List.length_range]
    have hlP:(((List.range i).map (dP p q g l N ep d x)).flatMap pfC).length=i*8:=by rw[flat_length pfC_len,List.length_map,List.length_range]
    clear hPd hHlt hHl hN
    generalize drawN q x (dH ep d (dV p q g l i) (dY p q l N i) i)=D at *
    generalize dH ep d (dV p q g l i) (dY p q l N i) i=H at *
    generalize hV2:((List.range (i+1)).map (dV p q g l)).flatMap numC=V2 at *
    generalize hY2:((List.range (i+1)).map (dY p q l N)).flatMap numC=Y2 at *
    generalize hP2:((List.range (i+1)).map (dP p q g l N ep d x)).flatMap pfC=P2 at *
    generalize ((List.range i).map (dV p q g l)).flatMap numC=V1 at *
    generalize ((List.range i).map (dY p q l N)).flatMap numC=Y1 at *
    generalize ((List.range i).map (dP p q g l N ep d x)).flatMap pfC=P1 at *
    generalize dV p q g l i=v at *
    generalize dY p q l N i=y at *
    generalize dP p q g l N ep d x i=pf at *
    generalize shN q l i=sh at *
    generalize (shL q l N.length).flatMap numC++rL=SL at *
    generalize hTL:naL gV V1 rV i++(naL gY Y1 rY i++npL gP P1 rP i)=TL
    generalize hAV:agV gV cV i i=aV
    generalize hAY:agV gY cY i i=aY
    generalize hAP:agV gP cP i i=aP
    have hbv:(be 32 v).length=32:=be_length _ _
    have hby:(be 32 y).length=32:=be_length _ _
    have hba:(abL ep d (i+1)).length=10:=abL_length _ _ _
    have hLv:=hLo v
    have hLy:=hLo y
    clear hLo
    repeat (first|refine Ta ?_|(refine Tm ?_;intro _)|refine Tc ?_|exact Tz)
    refine WC.dT rfl (by omega) ?_
    repeat (first|refine Ta ?_|(refine Tm ?_;intro _)|refine WO.does (does_indexSlice (o':=o+i*8) rfl rfl hli rfl) ?_|refine WO.does (a_loadF (vs:=numC k2.2) (hs:=hs) (hle:=by omega) (hc:=cut_key2 hk2)) ?_|refine Tc ?_|exact Tz)
    refine WC.adraw 9 (k:=?_)
    iterate 9 (first|refine Da ?_|refine DQ.acall (hc:=hE1) (k:=?_)|refine DQ.does (fun s _=>does_indexSlice (o':=0+i*4) rfl rfl hli rfl) Dp.const ?_|refine DQ.does (fun s _=>a_load (vs:=numC sh) (hc:=hcL)) Dp.const ?_|refine Dc ?_)
    refine DQ.anil (k:=?_)
    intro sx _
    generalize sx 8 0=gv
    clear sx
    repeat (first|refine Ta ?_|(refine Tm ?_;intro _)|refine Tc ?_|exact Tz)
    refine WC.adraw 8 (k:=?_)
    iterate 8 (first|refine Da ?_|refine DQ.acall (hc:=hE2) (k:=?_)|refine DQ.does (fun s _=>does_indexSlice (o':=0+i*4) rfl rfl hli rfl) Dp.const ?_|refine DQ.does (fun s _=>a_load (vs:=numC sh) (hc:=hcL)) Dp.const ?_|refine Dc ?_)
    refine DQ.anil (k:=?_)
    intro sx _
    generalize sx 7 0=gy
    clear sx
    repeat (first|refine Ta ?_|(refine Tm ?_;intro _)|refine Tc ?_|exact Tz)
    refine WC.adraw 13 (k:=?_)
    iterate 3 (refine DQ.auto (k:=?_))
    refine DQ.does (fun s _=>does_add rfl rfl hadd2) Dp.const ?_
    refine DQ.does (fun s _=>does_conv rfl hcv) Dp.const ?_
    refine DQ.acallZ (hc:=hAb) (hR:=fun _=>trivial) (hX:=by rw[hba];decide) (k:=?_)
    refine DQ.auto (k:=?_)
    refine DQ.acallZ (hc:=hLv) (hR:=fun _=>Rd.nil) (hX:=by rw[hbv];decide) (k:=?_)
    refine DQ.auto (k:=?_)
    refine DQ.acallZ (hc:=hLy) (hR:=fun _=>Rd.nil) (hX:=by rw[hby];decide) (k:=?_)
    rw[hba,hbv,hby]
    refine DQ.makes (vf:=fun _ g=>.slice (some ⟨g,0,none⟩) 3 3) (t:=84) (cs:=fun s=>[.slice (some ⟨s 5 0,0,none⟩) 10 (s 5 1),.slice (some ⟨s 7 0,0,none⟩) 32 (s 7 1),.slice (some ⟨s 9 0,0,none⟩) 32 (s 9 1)]) (fun s _=>makes_build rfl (by decide) rfl) Dp.const (by intro s s' h;dsimp only;rw[h,h,h]<;>decide +kernel) ?_
    refine DQ.callE (v:=fun _=>.agg (byC H).toArray) (fun s=>[⟨s 10 0,84,[.slice (some ⟨s 5 0,0,none⟩) 10 (s 5 1),.slice (some ⟨s 7 0,0,none⟩) 32 (s 7 1),.slice (some ⟨s 9 0,0,none⟩) 32 (s 9 1)]⟩,⟨s 9 0,5,byC (be 32 y++rz (s 9))⟩,⟨s 7 0,5,byC (be 32 v++rz (s 7))⟩,⟨s 5 0,5,byC (abL ep d (i+1)++rz (s 5))⟩])
      (fun s=>.cons 10 (.head _) (by decide +kernel) (.cons 9 (by repeat (first|exact .head _|apply List.Mem.tail)) (by decide +kernel) (.cons 7 (by repeat (first|exact .head _|apply List.Mem.tail)) (by decide +kernel) (.cons 5 (by repeat (first|exact .head _|apply List.Mem.tail)) (by decide +kernel) .nil)))) (fun s _=>hO (s 5 0) (s 5 1) (s 7 0) (s 7 1) (s 9 0) (s 9 1) (s 10 0)) (fun s=>rfl)
      (fun s hC w hm=>⟨Hs.seg Hs.here hm,Parts.cons (rdp_ownZ hm (Hs.there (Hs.there (Hs.there Hs.here))) hC.1.1.2.1 hC.1.1.2.2 hba) (Parts.cons (rdp_ownZ hm (Hs.there (Hs.there Hs.here)) hC.1.2.1 hC.1.2.2 hbv) (Parts.cons (rdp_ownZ hm (Hs.there Hs.here) hC.2.1 hC.2.2 hby) Parts.nil))⟩) Dp.const ?_
    refine DQ.autoM (k:=?_)
    refine DQ.anil (k:=?_)
    intro sx _
    refine WO.stores (a_store (vs:=byC H) (cs':=byC H) (hl:=hHlen) (h1:=byC_one _) (hc:=over_all (by rw[hHlen];rfl)) (hle:=by rw[hHlen];rfl)) ?_
    generalize sx 12 0=gH
    repeat (first|refine Ta ?_|(refine Tm ?_;intro _)|refine Tc ?_|exact Tz)
    refine WC.adrawF [15] 17 (k:=?_)
    repeat (first|refine Da ?_|refine DQ.does (fun s _=>a_load (vs:=byC H) (hc:=cut_all hHlen) (hl:=hHlen)) Dp.const ?_|refine DQ.acall (hc:=hDr) (k:=?_)|refine DQ.acall (hc:=hPr) (k:=?_)|refine DQ.does (fun s _=>does_indexSlice (o':=0+i*4) rfl rfl hli rfl) Dp.const ?_|refine DQ.does (fun s _=>a_load (vs:=numC sh) (hc:=hcL)) Dp.const ?_|refine Df ?_)
    refine DQ.anil (k:=?_)
    intro sx _
    generalize sx 16 0=gp
    rcases i with _|i
    · have e1:V1=[]:=List.length_eq_zero_iff.1 (by omega)
      have e2:Y1=[]:=List.length_eq_zero_iff.1 (by omega)
      have e3:P1=[]:=List.length_eq_zero_iff.1 (by omega)
      subst e1 e2 e3 hTL hAV hAY hAP
      rw[List.nil_append] at hstV hstY hstP
      try dsimp only[agV,naL,npL,List.nil_append]
      repeat (first|refine Ta ?_|(refine Tm ?_;intro _)|(refine WO.makes (makes_build (cs:=numC v) rfl (by decide) rfl) ?_;intro _)|refine Tc ?_|exact Tz)
      refine WO.appN (z:=numC 0) (m:=1) rfl rfl rfl (Rds.own (m:=4) Hs.here rfl) rfl (by decide) (by decide) (by decide) (by decide) (fun g1 c1 r1 a1 a2 a3=>?_)
      rw[hstV] at a1 ⊢
      repeat (first|refine Ta ?_|(refine Tm ?_;intro _)|(refine WO.makes (makes_build (cs:=numC y) rfl (by decide) rfl) ?_;intro _)|refine Tc ?_|exact Tz)
      refine WO.appN (z:=numC 0) (m:=1) rfl rfl rfl (Rds.own (m:=4) Hs.here rfl) rfl (by decide) (by decide) (by decide) (by decide) (fun g2 c2 r2 b1 b2 b3=>?_)
      rw[hstY] at b1 ⊢
      repeat (first|refine Ta ?_|(refine Tm ?_;intro _)|(refine WO.makes (makes_build (cs:=pfC pf) rfl (by decide) rfl) ?_;intro _)|refine Tc ?_|exact Tz)
      refine WO.appN (z:=twoC 0 0) (m:=1) rfl rfl rfl (Rds.own (m:=8) Hs.here rfl) rfl (by decide) (by decide) (by decide) (by decide) (fun g3 c3 r3 d1 d2 d3=>?_)
      rw[hstP] at d1 ⊢
      repeat (first|refine Ta ?_|(refine Tm ?_;intro _)|refine WO.does (does_add rfl rfl hadd2) ?_|refine Tc ?_|exact Tz)
      subst hV2 hY2 hP2
      exact WX.metI ⟨1,g1,c1,r1,g2,c2,r2,g3,c3,r3⟩ (hs:=⟨⟨by show 0+1≤N.length;omega,fun _=>⟨a1,a2,a3⟩,fun _=>⟨b1,b2,b3⟩,fun _=>⟨d1,d2,d3⟩⟩,by show N.length - (0+1)<N.length - 0;omega⟩)
    · obtain⟨u1,u2,u3⟩:=oV (by omega)
      obtain⟨u4,u5,u6⟩:=oY (by omega)
      obtain⟨u7,u8,u9⟩:=oP (by omega)
      subst hTL hAV hAY hAP
      try dsimp only[agV,naL,npL,List.cons_append,List.nil_append]
      repeat (first|refine Ta ?_|(refine Tm ?_;intro _)|(refine WO.makes (makes_build (cs:=numC v) rfl (by decide) rfl) ?_;intro _)|refine Tc ?_|exact Tz)
      refine WO.appK (z:=numC 0) (m:=1) (l:=i+1+1) rfl rfl rfl (xs:=V1) (r:=rV) (ys:=numC v) hlV u1 (by repeat (first|exact Pk.here|apply Pk.there)) (Rds.own (m:=4) Hs.here rfl) rfl rfl rfl (by omega) u2 (by omega) (by decide) (by decide) (fun g1 c1 r1 a1 a2 a3=>?_)
      rw[hstV] at a1 ⊢
      repeat (first|refine Ta ?_|(refine Tm ?_;intro _)|(refine WO.makes (makes_build (cs:=numC y) rfl (by decide) rfl) ?_;intro _)|refine Tc ?_|exact Tz)
      refine WO.appK (z:=numC 0) (m:=1) (l:=i+1+1) rfl rfl rfl (xs:=Y1) (r:=rY) (ys:=numC y) hlY u4 (by repeat (first|exact Pk.here|apply Pk.there)) (Rds.own (m:=4) Hs.here rfl) rfl rfl rfl (by omega) u5 (by omega) (by decide) (by decide) (fun g2 c2 r2 b1 b2 b3=>?_)
      rw[hstY] at b1 ⊢
      repeat (first|refine Ta ?_|(refine Tm ?_;intro _)|(refine WO.makes (makes_build (cs:=pfC pf) rfl (by decide) rfl) ?_;intro _)|refine Tc ?_|exact Tz)
      refine WO.appK (z:=twoC 0 0) (m:=1) (l:=i+1+1) rfl rfl rfl (xs:=P1) (r:=rP) (ys:=pfC pf) hlP u7 (by repeat (first|exact Pk.here|apply Pk.there)) (Rds.own (m:=8) Hs.here rfl) rfl rfl rfl (by omega) u8 (by omega) (by decide) (by decide) (fun g3 c3 r3 d1 d2 d3=>?_)
      rw[hstP] at d1 ⊢
      repeat (first|refine Ta ?_|(refine Tm ?_;intro _)|refine WO.does (does_add rfl rfl hadd2) ?_|refine Tc ?_|exact Tz)
      subst hV2 hY2 hP2
      exact WX.metI ⟨i+1+1,g1,c1,r1,g2,c2,r2,g3,c3,r3⟩ (hs:=⟨⟨by show i+1+1≤N.length;omega,fun _=>⟨a1,a2,a3⟩,fun _=>⟨b1,b2,b3⟩,fun _=>⟨d1,d2,d3⟩⟩,by show N.length - (i+1+1)<N.length - (i+1);omega⟩)
  have hi2:i=N.length:=by omega
  subst hi2
  clear hli hi
  obtain⟨u1,u2,u3⟩:=oV hn1
  obtain⟨u4,u5,u6⟩:=oY hn1
  obtain⟨u7,u8,u9⟩:=oP hn1
  rw[agV_pos hn1,agV_pos hn1,agV_pos hn1,naL_pos hn1,naL_pos hn1,npL_pos hn1]
  rw[show (List.range N.length).map (dV p q g l)=dVs p q g l N.length from rfl,show (List.range N.length).map (dY p q l N)=dYs p q l N N.length from rfl,show (List.range N.length).map (dP p q g l N ep d x)=dPs p q g l N ep d x N.length from rfl] at *
  have hVl:(dVs p q g l N.length).length=N.length:=by simp[dVs]
  have hYl:(dYs p q l N N.length).length=N.length:=by simp[dYs]
  have hPl:(dPs p q g l N ep d x N.length).length=N.length:=by simp[dPs]
  have hne:∀ {α:Type} {xs:List α},xs.length=N.length→xs≠[]:=fun h e=>by rw[e] at h;simp at h;omega
  have hH:=fun gV cV gY cY gP cP=>r15_Hash ep d 0 0 (some ⟨gV,0,none⟩) (some ⟨gY,0,none⟩) (some ⟨gP,0,none⟩) cV cY cP (dVs p q g l N.length) (dYs p q l N N.length) (dPs p q g l N ep d x N.length) hep hd (hne hVl) (hne hYl) (hne hPl) (by omega) (by omega) (by omega)
  rw[hVl,hYl,hPl] at hH
  rw[show dHash ep d (dVs p q g l N.length) (dYs p q l N N.length) (dPs p q g l N ep d x N.length)=dHs p q g l N ep d x N.length from rfl] at hH
  have hHlt:∀ b∈dHs p q g l N ep d x N.length,b<256:=hOf_lt _ _
  have hHl:(dHs p q g l N ep d x N.length).length=32:=hOf_len' _ _
  have hDr:=r15_Draw p q g h x (dHs p q g l N ep d x N.length) hx hq hq0 hHlt hHl
  have hSg:=r13_Sign p q g h x (drawN q x (dHs p q g l N ep d x N.length)) (dHs p q g l N ep d x N.length) hp hq hg hx (drawN_lt hq0 hq) hHlt hHl
  simp only[prV] at hSg
  rw[show okV (sgB p q g x (drawN q x (dHs p q g l N ep d x N.length))) (sgC p q g x (drawN q x (dHs p q g l N ep d x N.length)) (dHs p q g l N ep d x N.length))=(dSg p q g l N ep d x N.length).1 from rfl,
    show okV (sgB p q g x (drawN q x (dHs p q g l N ep d x N.length))) ((drawN q x (dHs p q g l N ep d x N.length)+x*sgC p q g x (drawN q x (dHs p q g l N ep d x N.length)) (dHs p q g l N ep d x N.length)%q)%q)=(dSg p q g l N ep d x N.length).2 from rfl] at hSg
  have hHlen:(byC (dHs p q g l N ep d x N.length)).length=32:=by rw[byC_length,hHl]
  clear hHlt hHl hne hN
  generalize drawN q x (dHs p q g l N ep d x N.length)=D at *
  generalize dHs p q g l N ep d x N.length=H at *
  generalize dSg p q g l N ep d x N.length=sg at *
  generalize dVs p q g l N.length=Vs at *
  generalize dYs p q l N N.length=Ys at *
  generalize dPs p q g l N ep d x N.length=Ps at *
  try dsimp only[List.cons_append,List.nil_append]
  repeat (first|refine Ta ?_|(refine Tm ?_;intro _)|refine Tc ?_|exact Tz)
  refine WC.dF rfl (by omega) ?_
  repeat (first|refine Ta ?_|(refine Tm ?_;intro _)|refine WO.acallR (hc:=hH gV cV gY cY gP cP) (hR:=fun w1 hm=>⟨by have:=RdF.seg (f:=numC) (xs:=Vs) (r:=rV) (c:=cV) (Hs.seg (L:=_) (g:=gV) (t:=24) (by repeat (first|exact Hs.here|apply Hs.there)) hm);rw[hVl] at this;exact this,by have:=RdF.seg (f:=numC) (xs:=Ys) (r:=rY) (c:=cY) (Hs.seg (L:=_) (g:=gY) (t:=24) (by repeat (first|exact Hs.here|apply Hs.there)) hm);rw[hYl] at this;exact this,by have:=RdF.seg (f:=pfC) (xs:=Ps) (r:=rP) (c:=cP) (Hs.seg (L:=_) (g:=gP) (t:=87) (by repeat (first|exact Hs.here|apply Hs.there)) hm);rw[hPl] at this;exact this⟩) (k:=?_)|refine Tc ?_|exact Tz)
  refine WO.stores (a_store (vs:=byC H) (cs':=byC H) (hl:=hHlen) (h1:=byC_one _) (hc:=over_all (by rw[hHlen];rfl)) (hle:=by rw[hHlen];rfl)) ?_
  repeat (first|refine Ta ?_|(refine Tm ?_;intro _)|refine Tc ?_|exact Tz)
  refine WC.adrawF [10] 12 (k:=?_)
  repeat (first|refine Da ?_|refine DQ.does (fun s _=>a_load (vs:=byC H) (hc:=cut_all hHlen) (hl:=hHlen)) Dp.const ?_|refine DQ.acall (hc:=hDr) (k:=?_)|refine DQ.acall (hc:=hSg) (k:=?_)|refine Df ?_)
  refine DQ.anil (k:=?_)
  intro sx _
  repeat (first|refine Ta ?_|(refine Tm ?_;intro _)|refine Tc ?_|exact Tz)
  exact WX.ret2 rfl (by exact a_rvc) (by exact rv_tmp rfl) [⟨gP,87,Ps.flatMap pfC++rP⟩,⟨gY,24,Ys.flatMap numC++rY⟩,⟨gV,24,Vs.flatMap numC++rV⟩] (Lle.cons (by repeat (first|exact Pk.here|apply Pk.there)) rfl (Lle.cons (by repeat (first|exact Pk.here|apply Pk.there)) rfl (Lle.cons (by repeat (first|exact Pk.here|apply Pk.there)) rfl Lle.nil))) ⟨gV,cV,rV,gY,cY,rY,gP,cP,rP,rfl,rfl⟩
end
end Sx
end Go.Proofs.YtmhligfnchegdaaGreatDoor
namespace Go.Proofs.YtmhligfnchegdaaGreatDoor
open Go Go.RowKit Go.BigFrame
namespace Sx
section
variable {P:Program} {w0:World} {gs:List Nat} {n:Nat} {ops:List Oper} {Q:Exit→Act→World→Prop} {K:List (Nat × Value)} {L L' : List Ent} {rest:List Oper}
theorem WC.permL {c:Code} (hp:L.Perm L') (k:WC P w0 gs n c Q K L'):WC P w0 gs n c Q K L:=fun a w h1 h2 h3 h4=>k a w h1 h2 h3 (h4.perm hp)
theorem WO.permL (hp:L.Perm L') (k:WO P w0 gs n ops Q K L' rest):WO P w0 gs n ops Q K L rest:=fun a w h1 h2 h3 h4=>k a w h1 h2 h3 (h4.perm hp)
theorem WX.permL {e:Exit} (hp:L.Perm L') (k:WX w0 gs n e Q K L'):WX w0 gs n e Q K L:=fun a w h1 h2 h3 h4=>k a w h1 h2 h3 (h4.perm hp)
theorem WO.dropL (hp:L'.Sublist L) (k:WO P w0 gs n ops Q K L' rest):WO P w0 gs n ops Q K L rest:=fun a w h1 h2 h3 h4=>k a w h1 h2 h3 (h4.sub hp)
end
theorem mkz_snoc (n:Nat) (z:List Value):mkz (n+1) z=mkz n z++z:=by
  unfold mkz
  rw[List.replicate_succ',List.flatten_append];simp
theorem mkz_add (n m:Nat) (z:List Value):mkz (n+m) z=mkz n z++mkz m z:=by
  unfold mkz
  rw[← List.replicate_append_replicate,List.flatten_append]
theorem mkz_1z (z:List Value):mkz 1 z=z:=by simp[mkz]
theorem over_mark {M cs:List Value} {k:Nat}:over (mkz k M++cs.drop (k*M.length)) (k*M.length) M=mkz (k+1) M++cs.drop ((k+1)*M.length):=by
  have e:=over_end (xs:=mkz k M) (r:=cs.drop (k*M.length)) (ys:=M)
  rw[mkz_length] at e
  rw[e,List.drop_drop,mkz_snoc,Nat.succ_mul]
structure HE where
  b:Option Nat
  n:Nat
  c:Nat
  cs:List Value
  m:Nat
def HE.v (e:HE):Value:=.slice (e.b.map fun b=>⟨b,0,none⟩) e.n e.c
def HE.L (T:Nat) (e:HE):List Ent:=match e.b with|none=>[]|some b=>[⟨b,T,e.cs⟩]
def HE.row (e:HE):List Value:=[e.v,.slice none 0 0,.int .i64 (e.m:Int)]
structure HE.ok (z:Nat) (e:HE):Prop where
  nil:e.b=none→e.n=0∧e.c=0
  le:e.n≤e.c
  room:e.c≤e.n+1
  most:e.n≤100
  len:e.cs.length=e.c*z
  mark:e.m<1000
def HE.fill (M:Nat→List Value) (e:HE):HE:={ e with cs:=mkz e.n (M e.m)++e.cs.drop (e.n*(M e.m).length) }
inductive GS where
  | A:GS
  | B:Nat→Nat→List Value→List Value→GS
def gsV (e:HE):GS→Nat→Value
  | .A,j=>.slice (e.b.map fun b=>⟨b,0,none⟩) (e.n+j) e.c
  | .B g c _ _,j=>.slice (some ⟨g,0,none⟩) (e.n+j) c
def gsL (T:Nat) (M:List Value) (e:HE):GS→Nat→List Ent
  | .A,j=>(match e.b with|none=>[]|some b=>[⟨b,T,mkz (e.n+j) M++e.cs.drop ((e.n+j)*M.length)⟩])
  | .B g _ r cs,j=>⟨g,T,mkz (e.n+j) M++r⟩::(match e.b with|none=>[]|some b=>[⟨b,T,mkz e.n M++cs⟩])
def gsOk (M:List Value) (e:HE):GS→Nat→Prop
  | .A,j=>e.n+j≤e.c
  | .B _ c r _,j=>(mkz (e.n+j) M++r).length=c*M.length∧c<9223372036854775808∧e.n+j≤c
section
variable {P:Program} {w0:World} {gs:List Nat} {n:Nat} {ops:List Oper} {Q:Exit→Act→World→Prop} {K:List (Nat × Value)} {L:List Ent} {rest:List Oper}
variable {d:Nat} {ty:TypeId} {pos:String} {after:Array Edge} {gd:Option (Nat × Bool)}
theorem WO.appG {e:HE} {s:GS} {j st xt T size bts gy t2 cy zz:Nat} {z M:List Value} {R:List Ent} {x y:Operand} [SlT P st T size] [SlT P xt T size] [ElT P T bts z] (hs:size=z.length) (hM:M.length=z.length) (hM1:M.all Value.oneCell'=true) (hx:ev K x=some (gsV e s j)) (hy:ev K y=some (.slice (some ⟨gy,0,none⟩) 1 cy))
    (hp:L.Perm (⟨gy,t2,M⟩::(gsL T M e s j++R))) (ho:gsOk M e s j) (he:e.ok zz) (hzz:zz=z.length) (hj:j<40) (hb:bts≠0) (hb2:bts≤4096) (hT:T≠0)
    (k:∀ s',gsOk M e s' (j+1)→WO P w0 gs n ops Q ((d,gsV e s' (j+1))::K) (gsL T M e s' (j+1)++R) rest) (hd:Nat.blt d n=true:=by rfl) (hw:wk ops K gd=some true:=by rfl) :
    WO P w0 gs n ops Q K L (⟨some d,.call { callee:=.builtin .append,args:=#[x,y],argTypes:=#[st,xt] },ty,pos,after,gd⟩::rest):=by
  subst hzz
  have hmost:=he.most
  have hbb:∀ m,m≤200→m*bts≤140737488355328:=fun m hm=>by
    have:m*bts≤200*4096:=Nat.mul_le_mul hm hb2
    omega
  refine WO.permL hp ?_
  have hr:∀ {L1:List Ent},Rds w0 gs (⟨gy,t2,M⟩::L1) (.slice (some ⟨gy,0,none⟩) 1 cy) 1 M:=fun {L1}=>Rds.own (m:=M.length) Hs.here (by unfold cut;rw[List.drop_zero,List.take_of_length_le (Nat.le_refl _)])
  cases s with
  | A =>
    obtain⟨b,m,c,cs,mm⟩:=e
    cases b with
    | none =>
      obtain⟨h1,h2⟩:=he.nil rfl
      simp only at h1 h2
      subst h1 h2
      have hj0:j=0:=by have:0+j≤0:=ho;omega
      subst hj0
      refine WO.appN (z:=z) (m:=1) hs hx hy hr (by rw[hM,Nat.one_mul]) (by omega) (by omega) (hbb 1 (by omega)) hb (fun g' c' r' a1 a2 a3=>?_) hd hw
      refine WO.dropL ?_ (k (.B g' c' r' []) ⟨?_,a2,a3⟩)
      · show List.Sublist (⟨g',T,mkz 1 M++r'⟩::R) _
        rw[mkz_1z]
        exact .cons_cons _ (.cons _ (.refl _))
      · show (mkz 1 M++r').length=_
        rw[mkz_1z,a1,hM]
    | some b =>
      have hle:m+j≤c:=ho
      have hx2:ev K x=some (.slice (some ⟨b,0,none⟩) (m+j) c):=hx
      have hmost:m≤100:=hmost
      have hroom:c≤m+1:=he.room
      have hlen:cs.length=c*z.length:=he.len
      by_cases hlt:m+j<c
      · have hov:over (mkz (m+j) M++cs.drop ((m+j)*M.length)) ((m+j)*z.length) M=mkz (m+j+1) M++cs.drop ((m+j+1)*M.length):=by rw[← hM];exact over_mark
        have h1:(m+j)*z.length+M.length≤(mkz (m+j) M++cs.drop ((m+j)*M.length)).length:=by
          rw[List.length_append,mkz_length,List.length_drop,hlen,hM]
          have:(m+j+1)*z.length≤c*z.length:=Nat.mul_le_mul_right _ hlt
          rw[Nat.succ_mul] at this
          omega
        have hk:=k .A (by show m+(j+1)≤c;omega)
        refine WO.both (app_room (s:=undef) (z:=z) (g:=b) (t:=T) (L':=⟨gy,t2,M⟩::⟨b,T,mkz (m+j+1) M++cs.drop ((m+j+1)*M.length)⟩::R) hx2 hy hr (by rw[hM,Nat.one_mul]) hlt hM1 (.there .here) hov h1 hs hT) ?_ hd hw
        exact WO.dropL (.cons _ (.refl _)) hk
      · have hc:c=m+j:=by omega
        subst hc
        have h0:cs.drop ((m+j)*M.length)=[]:=List.drop_of_length_le (by rw[hlen,hM];exact Nat.le_refl _)
        refine WO.news (app_new (z:=z) (n:=1) hx2 hy (ys:=mkz (m+j) M) (Rds.own (m:=(m+j)*M.length) (.there .here) (by show cut (mkz (m+j) M++cs.drop ((m+j)*M.length)) 0 _=_;rw[h0,List.append_nil];unfold cut;rw[List.drop_zero,List.take_of_length_le (by rw[mkz_length];exact Nat.le_refl _)])) (by rw[mkz_length,hM]) hr (by rw[hM,Nat.one_mul]) (by omega) (by omega) (growslice_fits (by omega) (hbb _ (by omega))) hb hs) (fun s hs=>?_) hd hw
        have e1:(mkz (m+j+1) M++mkz (s 1 - (m+j+1)) z).length=s 1*M.length:=by
          rw[List.length_append,mkz_length,mkz_length,hM,← Nat.add_mul]
          congr 1
          have:=hs.1
          omega
        have hk:=k (.B (s 0) (s 1) (mkz (s 1 - (m+j+1)) z) (mkz j M)) ⟨e1,hs.2,by show m+(j+1)≤s 1;have:=hs.1;omega⟩
        refine WO.dropL ?_ hk
        show List.Sublist (⟨s 0,T,mkz (m+(j+1)) M++mkz (s 1 - (m+j+1)) z⟩::⟨b,T,mkz m M++mkz j M⟩::R) (⟨s 0,T,mkz (m+j) M++M++mkz (s 1 - (m+j+1)) z⟩::⟨gy,t2,M⟩::⟨b,T,mkz (m+j) M++cs.drop ((m+j)*M.length)⟩::R)
        rw[h0,List.append_nil,← mkz_add,← Nat.add_assoc,mkz_snoc]
        exact .cons_cons _ (.cons _ (.refl _))
  | B g c r cs =>
    obtain⟨h1,h2,h3⟩:=ho
    have hmj:e.n+j≤140:=by omega
    refine WO.appK (z:=z) (m:=1) (l:=e.n+j+1) hs hx hy (xs:=mkz (e.n+j) M) (r:=r) (by rw[mkz_length,hM]) (by rw[h1,hM]) (.there .here) hr (by rw[hM,Nat.one_mul]) hM1 rfl (by omega) h2 (hbb _ (by omega)) hb hT (fun g' c' r' a1 a2 a3=>?_) hd hw
    have hk:=k (.B g' c' r' cs) ⟨by show (mkz (e.n+j+1) M++r').length=_;rw[mkz_snoc,a1,hM],a2,a3⟩
    refine WO.dropL ?_ hk
    have e3:mkz (e.n+j+1) M=mkz (e.n+j) M++M:=mkz_snoc _ _
    show List.Sublist (Ent.mk g' T (mkz (e.n+j+1) M++r')::_) _
    rw[e3]
    exact .cons_cons _ (.cons _ (.refl _))
end
end Sx
end Go.Proofs.YtmhligfnchegdaaGreatDoor
