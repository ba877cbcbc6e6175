/- Part 35 of the proof: WtD, SnB, OsA -/
import Derived.Test.YtiiacjladnljhaaGreatDoorM34
import Derived.Test.YtiiacjladnljhaaGreatDoorM30
import Derived.Test.YtiiacjladnljhaaGreatDoorM33
import Derived.Test.YtiiacjladnljhaaGreatDoorM21
set_option linter.unusedSimpArgs false
set_option linter.unusedVariables false
namespace Go.Proofs.YtiiacjladnljhaaGreatDoor
open Go Go.RowKit Go.BigFrame
namespace Sx
attribute [local irreducible] wd DQ DQS WO WC WX
theorem c_IndexN (l:List Nat) (pt:Option Addr) (c x:Nat) (hx:x<B256) (hl:∀ y∈l,y<B256) (hne:x ∉ l) (hn:l.length≤1000) :
    Fn Tryz.prog 258 [.slice pt l.length c,numV x] (RdF numC (.slice pt l.length c) l) (Is (.int .i64 (-1))):=by
  refine Fn.enter Tryz.func258 rfl rfl rfl ?_
  intro w hw
  repeat (first|refine Ta ?_|(refine Tm ?_;intro _)|refine Tc ?_|exact Tz)
  rename_i gX
  refine WC.loopI (σ:=Nat) (fun i=>i≤l.length) (fun i=>[(0,.slice pt l.length c),(3,Sx.pt gX),(7,.int .i64 (l.length:Int)),(8,.int .i64 (i:Int))]) (fun i=>[⟨gX,24,numC x⟩]) (fun i=>l.length - i) 0 (fun i hi=>?_) (Nat.zero_le _)
  try dsimp only at hi ⊢
  by_cases hlt:i<l.length
  · obtain⟨y,hy⟩ : ∃ y,l[i]?=some y:=⟨_,List.getElem?_eq_getElem hlt⟩
    have hym:=List.mem_of_getElem? hy
    have d:decide (x=y)=false:=decide_eq_false (fun e=>hne (e ▸ hym))
    obtain⟨b,o,rfl,_,hs⟩:=id hw |>.get hy
    have hadd2:IntKind.i64.wrap ((i:Int)+1)=((i+1:Nat):Int):=i64_in' (by omega) (by omega) (by omega)
    have hcx:cut (l.flatMap numC) (o+i*4 - o) 4=numC y:=by rw[Nat.add_sub_cancel_left];exact cut_flatP (f:=numC) (k:=4) (fun _=>rfl) hy
    repeat (first|refine Ta ?_|(refine Tm ?_;intro _)|refine Tc ?_|exact Tz)
    refine WC.dT rfl (by omega) ?_
    repeat (first|refine Ta ?_|(refine Tm ?_;intro _)|refine Tc ?_|exact Tz)
    refine WC.adraw 6 (k:=?_)
    iterate 3 (refine DQ.auto (k:=?_))
    refine DQ.does (fun s _=>does_indexSlice (o':=o+i*4) rfl rfl hlt rfl) Dp.const ?_
    refine DQ.does (fun s _=>a_loadF (vs:=numC y) (hs:=hs) (hle:=Nat.le_add_right _ _) (hc:=hcx)) Dp.const ?_
    refine DQ.does (fun s _=>a_eqNumV rfl rfl hx (hl y hym) d) Dp.const ?_
    refine DQ.anil (k:=?_)
    intro sx _
    repeat (first|refine Ta ?_|(refine Tm ?_;intro _)|refine WO.does (does_add rfl rfl hadd2) ?_|refine Tc ?_|exact Tz)
    exact WX.metI (i+1) (hs:=⟨by show i+1≤l.length;omega,by show l.length - (i+1)<l.length - i;omega⟩)
  · have hi2:i=l.length:=by omega
    subst hi2
    repeat (first|refine Ta ?_|(refine Tm ?_;intro _)|refine Tc ?_|exact Tz)
    refine WC.dF rfl (by omega) ?_
    repeat (first|refine Ta ?_|(refine Tm ?_;intro _)|refine Tc ?_|exact Tz)
theorem c_ContN (l:List Nat) (pt:Option Addr) (c x:Nat) (hx:x<B256) (hl:∀ y∈l,y<B256) (hne:x ∉ l) (hn:l.length≤1000) :
    Fn Tryz.prog 231 [.slice pt l.length c,numV x] (RdF numC (.slice pt l.length c) l) (Is (.bool false)):=by
  have hI:=c_IndexN l pt c x hx hl hne hn
  refine Fn.enter Tryz.func231 rfl rfl rfl ?_
  intro w hw
  repeat (first|refine Ta ?_|(refine Tm ?_;intro _)|refine WO.acallR (hc:=hI) (hR:=fun w1 hm=>hw.mod hm.mod) (k:=?_)|refine WO.does (does_geqN rfl rfl (by decide)) ?_|refine Tc ?_|exact Tz)
theorem RdF.take {α:Type} {f:α→List Value} {pt:Option Addr} {n c c' : Nat} {xs:List α} {w:World} (h:RdF f (.slice pt n c) xs w) {i:Nat} (hi:i≤xs.length):RdF f (.slice pt i c') (xs.take i) w:=by
  obtain⟨p,c0,e,h⟩:=h
  cases e
  have hl:(xs.take i).length=i:=by rw[List.length_take];omega
  refine⟨pt,c',by rw[hl],?_⟩
  rcases h with ⟨h1,h2⟩|⟨b,o,e,hs⟩
  · exact .inl ⟨h1,by rw[h2];simp⟩
  · refine .inr ⟨b,o,e,?_⟩
    have:xs.flatMap f=(xs.take i).flatMap f++(xs.drop i).flatMap f:=by rw[← List.flatMap_append,List.take_append_drop]
    rw[this] at hs
    intro j v hv
    exact hs j v (by
      rw[List.getElem?_append_left (by
        rcases Nat.lt_or_ge j ((xs.take i).flatMap f).length with h1|h1
        · exact h1
        · rw[List.getElem?_eq_none h1] at hv;cases hv)]
      exact hv)
structure PtsOk (q:Nat) (l:List Nat):Prop where
  ne:l≠[]
  lt:∀ y∈l,y<q
  nd:l.Nodup
  len:l.length≤7
section
variable (p q g h:Nat)
set_option maxHeartbeats 1000000 in
theorem c_points (l:List Nat) (pt:Option Addr) (c:Nat) (hP:PtsOk q l) (hcap:l.length≤c) (h1:1<q) (hq:q<B256) :
    Fn Tryz.prog 186 [grpV p q g h,.slice pt l.length c] (RdF numC (.slice pt l.length c) l) (Is (.bool true)):=by
  have hlb:∀ y∈l,y<B256:=fun y hy=>Nat.lt_trans (hP.lt y hy) hq
  have hM:=c_pmay p q g h l pt c hlb (by have:=hP.len;omega) hq
  rw[show allN q l=true by unfold allN;simp only[Bool.and_eq_true,decide_eq_true_eq,List.all_eq_true];exact⟨h1,fun y hy=>hP.lt y hy⟩] at hM
  have hnn:0<l.length:=List.length_pos_iff.2 hP.ne
  have hl7:=hP.len
  refine Fn.enter Tryz.func186 rfl rfl rfl ?_
  intro w hw
  repeat (first|refine Ta ?_|(refine Tm ?_;intro _)|refine Tc ?_|exact Tz)
  rename_i gG
  refine WC.loopI (σ:=Nat) (fun i=>i≤l.length) (fun i=>[(1,.slice pt l.length c),(2,Sx.pt gG),(7,.slice pt l.length c),(8,.int .i64 (l.length:Int)),(9,.int .i64 (i:Int))]) (fun i=>[⟨gG,26,grpC p q g h⟩]) (fun i=>l.length - i) 0 (fun i hi=>?_) (Nat.zero_le _)
  try dsimp only at hi ⊢
  by_cases hlt:i<l.length
  · obtain⟨x,hx⟩ : ∃ y,l[i]?=some y:=⟨_,List.getElem?_eq_getElem hlt⟩
    have hxm:=List.mem_of_getElem? hx
    have hxn:x ∉ l.take i:=fun hm=>by
      obtain⟨j,hj⟩:=List.getElem?_of_mem hm
      have hji:j<i:=by
        have:j<(l.take i).length:=by
          rcases Nat.lt_or_ge j (l.take i).length with h|h
          · exact h
          · rw[List.getElem?_eq_none h] at hj;cases hj
        rw[List.length_take] at this;omega
      rw[List.getElem?_take,if_pos hji] at hj
      obtain⟨k1,e1⟩:=List.getElem?_eq_some_iff.1 hj
      obtain⟨k2,e2⟩:=List.getElem?_eq_some_iff.1 hx
      exact List.pairwise_iff_getElem.1 hP.nd j i k1 k2 hji (e1.trans e2.symm)
    have hlt2:(l.take i).length=i:=by rw[List.length_take];omega
    have hC:=fun c'=>c_ContN (l.take i) pt c' x (hlb x hxm) (fun y hy=>hlb y (List.mem_of_mem_take hy)) hxn (by omega)
    rw[hlt2] at hC
    obtain⟨b,o,rfl,_,hs⟩:=id hw |>.get hx
    have hadd2:IntKind.i64.wrap ((i:Int)+1)=((i+1:Nat):Int):=i64_in' (by omega) (by omega) (by omega)
    have hcx:cut (l.flatMap numC) (o+i*4 - o) 4=numC x:=by rw[Nat.add_sub_cancel_left];exact cut_flatP (f:=numC) (k:=4) (fun _=>rfl) hx
    repeat (first|refine Ta ?_|(refine Tm ?_;intro _)|refine Tc ?_|exact Tz)
    refine WC.dT rfl (by omega) ?_
    repeat (first|refine Ta ?_|(refine Tm ?_;intro _)|refine WO.does (does_indexSlice (o':=o+i*4) rfl rfl hlt rfl) ?_|refine WO.does (a_loadF (vs:=numC x) (hs:=hs) (hle:=Nat.le_add_right _ _) (hc:=hcx)) ?_|refine Tc ?_|exact Tz)
    refine WC.adraw 5 (k:=?_)
    iterate 2 (refine DQ.auto (k:=?_))
    refine DQ.does (fun s _=>does_sliceTo (h:=i) rfl rfl (by omega)) Dp.const ?_
    refine DQ.auto (k:=?_)
    refine DQ.acallM (hc:=hC c) (hR:=fun w1 hm=>(hw.mod hm.mod).take (by omega)) (k:=?_)
    refine DQ.anil (k:=?_)
    intro sx _
    repeat (first|refine Ta ?_|(refine Tm ?_;intro _)|refine WO.does (does_add rfl rfl hadd2) ?_|refine Tc ?_|exact Tz)
    exact WX.metI (i+1) (hs:=⟨by show i+1≤l.length;omega,by show l.length - (i+1)<l.length - i;omega⟩)
  · have hi2:i=l.length:=by omega
    subst hi2
    repeat (first|refine Ta ?_|(refine Tm ?_;intro _)|refine Tc ?_|exact Tz)
    refine WC.dF rfl (by omega) ?_
    repeat (first|refine Ta ?_|(refine Tm ?_;intro _)|refine WO.does (does_gtrY rfl rfl (by omega)) ?_|refine WO.acallR (hc:=hM) (hR:=fun w1 hm=>hw.mod hm.mod) (k:=?_)|refine Tc ?_|exact Tz)
end
theorem invN_ltq {a q:Nat} (h1:1<q) (ha:a<q):invN a q<q:=by
  by_cases hg:Nat.gcd a q=1
  · exact (invN_spec h1 ha hg).2
  · unfold invN;rw[if_neg hg];omega
def wtI (q:Nat) (l:List Nat) (i:Nat):Nat:=invN (prM q 1 (dif q l i (l.getD i 0) l.length)) q
def wtN (q:Nat) (l:List Nat) (x i:Nat):Nat:=prM q (wtI q l i) (dif q l i x l.length)
def wtE (q:Nat) (l:List Nat) (i:Nat):Int:=(List.range i).foldl (fun e j=>kE e (iE (prM q 1 (dif q l j (l.getD j 0) l.length)) q)) 0
theorem wtE_succ (q:Nat) (l:List Nat) (i:Nat):wtE q l (i+1)=kE (wtE q l i) (iE (prM q 1 (dif q l i (l.getD i 0) l.length)) q):=by unfold wtE;rw[List.range_succ,List.foldl_append];rfl
theorem wtI_lt {q:Nat} {l:List Nat} {i:Nat} (h1:1<q):wtI q l i<q:=invN_ltq h1 (prM_lt (by omega) h1 _)
theorem wtN_lt {q:Nat} {l:List Nat} {x i:Nat} (h1:1<q):wtN q l x i<q:=prM_lt (by omega) (wtI_lt h1) _
def wts (q:Nat) (l:List Nat) (x:Nat):List Nat:=(List.range l.length).map (wtN q l x)
def NewWt (e:Int) (n:Nat) (cs:List Value):Value→List Ent→Prop:=fun v N=>(e≠0∧v=.tuple #[.slice none 0 0,.int .i64 7]∧N=[])∨(e=0∧∃ g,v=.tuple #[.slice (some ⟨g,0,none⟩) n n,.int .i64 0]∧N=[⟨g,24,cs⟩])
section
variable (p q g h:Nat)
set_option maxHeartbeats 4000000 in
theorem c_Weights (l:List Nat) (pt:Option Addr) (c x:Nat) (hP:PtsOk q l) (hcap:l.length≤c) (h1:1<q) (hx:x<q) (hq:q<B256) :
    Fn Tryz.prog 106 [grpV p q g h,.slice pt l.length c,numV x] (RdF numC (.slice pt l.length c) l) (NewWt (wtE q l l.length) l.length ((wts q l x).flatMap numC)):=by
  have hPt:=c_points p q g h l pt c hP hcap h1 hq
  have hM:=fun b=>c_pmay p q g h [x] (some ⟨b,0,none⟩) 1 (by intro y hy;rw[List.mem_singleton.1 hy];exact Nat.lt_trans hx hq) (by show 1≤1099511627776;omega) hq
  rw[show allN q [x]=true by unfold allN;simp[h1,hx]] at hM
  have hl7:=hP.len
  have hlt':=hP.lt
  clear hP
  refine Fn.enter Tryz.func106 rfl rfl rfl ?_
  intro w hw
  repeat (first|refine Ta ?_|(refine Tm ?_;intro _)|(refine WO.makes (makes_build (cs:=numC x) rfl (by decide) rfl) ?_;intro _)|refine WO.acallR (hc:=hPt) (hR:=fun w1 hm=>hw.mod hm.mod) (k:=?_)|refine WO.acallR (hc:=hM _) (hR:=fun w1 hm=>RdF.seg (f:=numC) (xs:=[x]) (r:=[]) (Hs.seg (by repeat (first|exact Hs.here|apply Hs.there)) hm)) (k:=?_)|refine Tc ?_|exact Tz)
  rename_i gG gX gT
  refine WC.adraw 8 (k:=?_)
  iterate 2 (refine DQ.auto (k:=?_))
  refine DQ.autoM (k:=?_)
  iterate 2 (refine DQ.auto (k:=?_))
  refine DQ.makes (vf:=fun _ g=>.slice (some ⟨g,0,none⟩) l.length l.length) (t:=24) (cs:=fun _=>mkz l.length (numC 0)) (fun s _=>makes_slice (l:=l.length) (c:=l.length) rfl rfl (Nat.le_refl _) (by omega) (by omega)) Dp.const Dp.const ?_
  iterate 2 (refine DQ.auto (k:=?_))
  refine DQ.anil (k:=?_)
  intro sx _
  generalize sx 2 0=gF
  generalize sx 5 0=gO
  clear sx
  refine WO.mine (fun hmn=>?_)
  have hgF:w.heap.size≤gF:=(hmn _ (List.Mem.tail _ (List.Mem.head _))).resolve_right (by simp)
  clear hmn
  have hout:∀ b o,pt=some ⟨b,o,none⟩→l≠[]→b ∉ [gF]:=fun b o e hne=>by
    subst e
    have:=RdF.lt (k:=3) (f:=numC) (fun _=>rfl) hw hne
    simp;omega
  repeat (first|refine Ta ?_|(refine Tm ?_;intro _)|refine Tc ?_|exact Tz)
  refine WC.loopI (σ:=Nat) (fun i=>i≤l.length) (fun i=>[(1,.slice pt l.length c),(5,Sx.pt gX),(8,Sx.pt gF),(9,.slice (some ⟨gO,0,none⟩) l.length l.length),(29,.int .i64 (l.length:Int)),(30,.int .i64 (i:Int))]) (fun i=>[⟨gO,24,((List.range i).map (wtN q l x)).flatMap numC++mkz (l.length - i) (numC 0)⟩,⟨gF,253,fdC p q g h (wtE q l i)⟩,⟨gX,24,numC x⟩]) (fun i=>l.length - i) 0 (fun i hi=>?_) (Nat.zero_le _)
  try dsimp only at hi ⊢
  by_cases hlt:i<l.length
  · obtain⟨li,hli⟩ : ∃ y,l[i]?=some y:=⟨_,List.getElem?_eq_getElem hlt⟩
    have hld:l.getD i 0=li:=by simp[List.getD,hli]
    have hadd2:IntKind.i64.wrap ((i:Int)+1)=((i+1:Nat):Int):=i64_in' (by omega) (by omega) (by omega)
    have hWe:=c_weight p q g h gF l pt c i li (wtE q l i) h1 hlt' (by omega) hli hq
    rw[show kE (wtE q l i) (iE (prM q 1 (dif q l i li l.length)) q)=wtE q l (i+1) by rw[wtE_succ,hld],show invN (prM q 1 (dif q l i li l.length)) q=wtI q l i by unfold wtI;rw[hld]] at hWe
    have hOth:=c_others p q g h gF l pt c i x (wtE q l (i+1)) h1 hlt' hx (by omega) (by omega) hq
    have hGa:=fun ptD cD=>c_gatherT p q g h gF (dif q l i x l.length) ptD cD (wtI q l i) (wtE q l (i+1)) h1 (wtI_lt h1) (dif_lt (by omega)) (by have:=dif_len (q:=q) (l:=l) (i:=i) (x:=x) (k:=l.length);omega) hq
    rw[show prM q (wtI q l i) (dif q l i x l.length)=wtN q l x i from rfl] at hGa
    have hov:over (((List.range i).map (wtN q l x)).flatMap numC++mkz (l.length - i) (numC 0)) (0+i*4) (numC (wtN q l x i))=((List.range (i+1)).map (wtN q l x)).flatMap numC++mkz (l.length - (i+1)) (numC 0):=over_range numC_len rfl hlt
    have hln:Nat.ble (0+i*4+4) (((List.range i).map (wtN q l x)).flatMap numC++mkz (l.length - i) (numC 0)).length=true:=len_range numC_len rfl hlt
    generalize hW2:((List.range (i+1)).map (wtN q l x)).flatMap numC++mkz (l.length - (i+1)) (numC 0)=W2 at *
    generalize ((List.range i).map (wtN q l x)).flatMap numC++mkz (l.length - i) (numC 0)=W1 at *
    generalize wtN q l x i=wn at *
    generalize wtI q l i=wi at *
    generalize hE2:wtE q l (i+1)=E2 at *
    generalize wtE q l i=E1 at *
    generalize dif q l i x l.length=D at *
    repeat (first|refine Ta ?_|(refine Tm ?_;intro _)|refine Tc ?_|exact Tz)
    refine WC.dT rfl (by omega) ?_
    repeat (first|refine Ta ?_|(refine Tm ?_;intro _)|refine Tc ?_|exact Tz)
    refine WC.mains [5,10,13,14,15] [(0,.slice (some ⟨gO,0,none⟩) l.length l.length),(1,.int .i64 (i:Int)),(2,Sx.pt gF),(3,.slice pt l.length c),(4,.int .i64 (i:Int)),(6,Sx.pt gF),(7,.slice pt l.length c),(8,.int .i64 (i:Int)),(9,numV x),(11,Sx.pt gF),(12,.func (.func 191) #[Sx.pt gF] #[])] (by decide) ?_
    refine WM.with [⟨gX,24,numC x⟩] (by kernel_rfl) (Tls.auto (Tls.auto (Tls.auto (Tls.auto (Tls.auto (Tls.auto (Tls.auto (Tls.auto (Tls.auto (Tls.auto (Tls.auto Tls.nil))))))))))) (fun hc hT=>?_)
    refine WM.step (m:=5) rfl rfl hc hT ?_
    refine WO.callM rfl hWe (by repeat (first|exact Rp.here|apply Rp.there)) (fun w1 hm=>⟨hw.mod hm.mod,hout⟩) (by decide) ?_ rfl rfl
    refine WO.nil (WX.wm [(38,numV wi)] ?_)
    refine WM.step (m:=10) rfl rfl hc hT ?_
    refine WO.callsL (hc:=hOth) (hp:=.cons (by repeat (first|exact Pk.here|apply Pk.there)) .nil) (fun w1 hm=>⟨hw.mod hm.mod,hout⟩) (fun v N hv=>?_)
    obtain⟨gD,cD,rD,rfl,rfl⟩:=hv
    obtain⟨ptD,cD',hv,hpt⟩:=nrV_slice gD cD D.length
    rw[hv,List.cons_append]
    refine WO.permL (List.Perm.cons _ List.perm_append_comm) ?_
    simp only[List.cons_append,List.nil_append]
    refine WO.nil (WX.wm [(43,.slice ptD D.length cD')] ?_)
    refine WM.step (m:=13) rfl rfl hc hT ?_
    refine WO.ndp (fun hnd=>?_)
    refine WO.callM rfl (hGa ptD cD') (by repeat (first|exact Rp.here|apply Rp.there)) (fun w1 hm=>rd_nr hm hpt (fun h=>by rw[nrL_pos h];exact .there (.there (.there .here))) (fun h=>by rw[nrL_pos h] at hnd;simp at hnd ⊢;exact fun e=>hnd.1.2.2 e.symm)) (by decide) ?_ rfl rfl
    refine WO.nil (WX.wm [(46,numV wn)] ?_)
    refine WM.step (m:=14) rfl rfl hc hT ?_
    refine WO.does (does_indexSlice (o':=0+i*4) rfl rfl hlt rfl) ?_
    refine WO.nil (WX.wm [(47,.pointer (some ⟨gO,0+i*4,none⟩))] ?_)
    refine WM.step (m:=15) rfl rfl hc hT ?_
    refine WO.stores (a_store (vs:=numC wn) (cs':=W2) (hc:=hov) (hle:=hln)) ?_
    refine WO.nil (WX.wm [] ?_)
    refine WM.fin (m:=15) hc rfl rfl (by rfl) ?_
    clear hc hT
    repeat (first|refine Ta ?_|(refine Tm ?_;intro _)|refine WO.does (does_add rfl rfl hadd2) ?_|refine Tc ?_|exact Tz)
    subst hW2 hE2
    exact WX.metI (i+1) (hs:=⟨by show i+1≤l.length;omega,by show l.length - (i+1)<l.length - i;omega⟩)
  · have hi2:i=l.length:=by omega
    subst hi2
    rw[Nat.sub_self,show mkz 0 (numC 0)=[] from rfl,List.append_nil]
    rw[show (List.range l.length).map (wtN q l x)=wts q l x from rfl]
    generalize wts q l x=ws at *
    repeat (first|refine Ta ?_|(refine Tm ?_;intro _)|refine Tc ?_|exact Tz)
    refine WC.dF rfl (by omega) ?_
    by_cases he:wtE q l l.length=0
    · repeat (first|refine Ta ?_|(refine Tm ?_;intro _)|refine WO.does (does_neqN rfl rfl he) ?_|refine Tc ?_|exact Tz)
      exact WX.ret2 rfl (by exact rv_tmp rfl) (by exact rv_tmp rfl) [⟨gO,24,ws.flatMap numC⟩] (Lle.cons (by repeat (first|exact Pk.here|apply Pk.there)) rfl Lle.nil) (.inr ⟨he,gO,rfl,rfl⟩)
    · repeat (first|refine Ta ?_|(refine Tm ?_;intro _)|refine WO.does (does_neqY rfl rfl he) ?_|refine Tc ?_|exact Tz)
      exact WX.ret2 rfl (by exact rv_tmp rfl) (by exact rv_tmp rfl) [] Lle.nil (.inl ⟨he,rfl,rfl⟩)
end
end Sx
end Go.Proofs.YtiiacjladnljhaaGreatDoor
namespace Go.Proofs.YtiiacjladnljhaaGreatDoor
open Go Go.RowKit Go.BigFrame
namespace Sx
attribute [local irreducible] wd DQ DQS WO WC WX
theorem c_secrets1 (n:Nat) (hn:n<1000):Fn Tryz.prog 192 [.int .i64 (n:Int)] Tr (Is (.int .i64 (-((n+1:Nat):Int)))):=by
  have h1:IntKind.i64.wrap (0 - (n:Int)) = -(n:Int):=by simp[IntKind.wrap,IntKind.signed,IntKind.bits];omega
  have h2:IntKind.i64.wrap (-(n:Int) - 1) = -((n+1:Nat):Int):=by simp[IntKind.wrap,IntKind.signed,IntKind.bits];omega
  refine Fn.enter Tryz.func192 rfl rfl rfl ?_
  intro w hw
  repeat (first|refine Ta ?_|(refine Tm ?_;intro _)|refine WO.does (does_negV rfl h1) ?_|refine WO.does (does_sub rfl rfl h2) ?_|refine Tc ?_|exact Tz)
abbrev sideS:List Value:=[.int .i64 3,.func (.func 192) #[] #[]]
theorem c_secrets:Fn Tryz.prog 107 [] Tr (Is (.agg sideS.toArray)):=by
  refine Fn.enter Tryz.func107 rfl rfl rfl ?_
  intro w hw
  repeat (first|refine Ta ?_|(refine Tm ?_;intro _)|refine Tc ?_|exact Tz)
def scN (q:Nat) (l:List Nat) (i:Nat):Nat:=polyN l (q - (i+1))%q
def scL (q:Nat) (l:List Nat) (n:Nat):List Nat:=(List.range n).map (scN q l)
theorem c_madeE {f:Nat} [Cal Tryz.prog f] (caps:List Value) (x m:Nat) (e:Int) (R:World→Prop) (hst:Stable R) (hm:0<m) (hm2:m≤100) (he:e≠0)
    (hf:Fn Tryz.prog f ([.int .i64 0]++caps) R (Is (.tuple #[numV x,.int .i64 e]))) :
    Fn Tryz.prog 100 [.int .i64 (m:Int),.func (.func f) #[] caps.toArray] R (Is (.tuple #[.slice none 0 0,.int .i64 e])):=by
  refine Fn.enter Tryz.func100 rfl rfl rfl ?_
  intro w hw
  repeat (first|refine WC.loopU 1 ?_|refine Ta ?_|(refine Tm ?_;intro _)|(refine WO.makes (makes_slice (l:=0) (c:=m) rfl rfl (by omega) (by omega) (by omega)) ?_;intro g)|refine Tc ?_|exact Tz)
  refine WC.dT rfl (by omega) ?_
  repeat (first|refine Ta ?_|(refine Tm ?_;intro _)|refine WO.acallV (hc:=hf) (hR:=fun w' hm=>hst _ _ hw hm.mod.below) (k:=?_)|refine WO.does (does_neqY rfl rfl he) ?_|refine Tc ?_|exact Tz)
  done
section
variable (p q g h:Nat)
theorem c_valuesS1 (l:List Nat) (pz:Option Addr) (c i gS gG gP:Nat) (hl:∀ a∈l,a<B256) (hn:l.length≤1099511627776) (hq:q<B256) (hb1:allN q l=true) (hi:i+1<q) (hi2:i<900) :
    Fn Tryz.prog 206 ([.int .i64 (i:Int)]++[pt gG,pt gP,pt gS]) (fun w=>Seg w gG 0 (grpC p q g h)∧Seg w gP 0 [.slice pz l.length c]∧Seg w gS 0 sideS∧RdF numC (.slice pz l.length c) l w) (Is (.tuple #[numV (scN q l i),.int .i64 0])):=by
  have h1:=c_secrets1 i (by omega)
  have h2:=c_ScOfM p q g h (i+1) (by omega) (by omega) hi hq
  have h3:=c_pAtY p q g h l pz c (q - (i+1)) hl hn hq (by omega) hb1 (by omega)
  rw[show polyN l (q - (i+1))%q=scN q l i from rfl] at h3
  generalize scN q l i=V at *
  refine Fn.enter Tryz.func206 rfl rfl rfl ?_
  intro w hw
  obtain⟨wG,wP,wS,wL⟩:=hw
  repeat (first|refine Ta ?_|(refine Tm ?_;intro _)|refine Tc ?_|exact Tz)
  refine WC.adraw 11 (k:=?_)
  iterate 11 (first|refine Da ?_|refine DQ.does (fun s _=>a_loadF (hs:=wG) (hle:=Nat.le_refl _) (vs:=grpC p q g h)) Dp.const ?_|refine DQ.does (fun s _=>a_loadF1 (hs:=wP) (hle:=Nat.le_refl _)) Dp.const ?_|refine DQ.does (fun s _=>a_loadF1 (hs:=wS) (hle:=Nat.zero_le _)) Dp.const ?_|refine DQ.acallV (hc:=h1) (k:=?_)|refine DQ.acall (hc:=h2) (k:=?_)|refine DQ.acallM (hc:=h3) (hR:=fun w hm=>wL.mod hm.mod) (k:=?_)|refine Dc ?_)
  refine DQ.anil (k:=?_)
  intro sx _
  repeat (first|refine Ta ?_|(refine Tm ?_;intro _)|refine Tc ?_|exact Tz)
  done
end
section
variable (p q g h:Nat)
theorem c_valuesSE (l:List Nat) (pz:Option Addr) (c i gS gG gP:Nat) (hl:∀ a∈l,a<B256) (hn:l.length≤1099511627776) (hq:q<B256) (hb1:allN q l=false) (hi:i+1<q) (hi2:i<900) :
    Fn Tryz.prog 206 ([.int .i64 (i:Int)]++[pt gG,pt gP,pt gS]) (fun w=>Seg w gG 0 (grpC p q g h)∧Seg w gP 0 [.slice pz l.length c]∧Seg w gS 0 sideS∧RdF numC (.slice pz l.length c) l w) (Is (.tuple #[numV 0,.int .i64 1])):=by
  have h1:=c_secrets1 i (by omega)
  have h2:=c_ScOfM p q g h (i+1) (by omega) (by omega) hi hq
  have h3:=c_pAtN p q g h l pz c (q - (i+1)) hl hn hq (by omega) (by rw[hb1,Bool.false_and])
  refine Fn.enter Tryz.func206 rfl rfl rfl ?_
  intro w hw
  obtain⟨wG,wP,wS,wL⟩:=hw
  repeat (first|refine Ta ?_|(refine Tm ?_;intro _)|refine Tc ?_|exact Tz)
  refine WC.adraw 11 (k:=?_)
  iterate 11 (first|refine Da ?_|refine DQ.does (fun s _=>a_loadF (hs:=wG) (hle:=Nat.le_refl _) (vs:=grpC p q g h)) Dp.const ?_|refine DQ.does (fun s _=>a_loadF1 (hs:=wP) (hle:=Nat.le_refl _)) Dp.const ?_|refine DQ.does (fun s _=>a_loadF1 (hs:=wS) (hle:=Nat.zero_le _)) Dp.const ?_|refine DQ.acallV (hc:=h1) (k:=?_)|refine DQ.acall (hc:=h2) (k:=?_)|refine DQ.acallM (hc:=h3) (hR:=fun w hm=>wL.mod hm.mod) (k:=?_)|refine Dc ?_)
  refine DQ.anil (k:=?_)
  intro sx _
  repeat (first|refine Ta ?_|(refine Tm ?_;intro _)|refine Tc ?_|exact Tz)
  done
end
section
variable (p q g h:Nat) (l:List Nat) (pz:Option Addr) (c m:Nat)
set_option maxHeartbeats 1000000 in
theorem c_valuesS (hl:∀ a∈l,a<B256) (hn:l.length≤1099511627776) (hq:q<B256) (hb1:allN q l=true) (h1:1≤m) (hm:m≤3) (hmq:m<q) :
    Fn Tryz.prog 115 [.agg sideS.toArray,grpV p q g h,.slice pz l.length c,.int .i64 (m:Int)] (RdF numC (.slice pz l.length c) l)
      (Ex (fun s=>.tuple #[.slice (some ⟨s 0,0,none⟩) m m,.int .i64 0]) (fun s=>[⟨s 0,24,(scL q l m).flatMap numC⟩]) (fun _=>True)):=by
  have hC:=fun gS gG gP=>c_made (f:=206) [pt gG,pt gP,pt gS] (scN q l) m (fun w=>Seg w gG 0 (grpC p q g h)∧Seg w gP 0 [.slice pz l.length c]∧Seg w gS 0 sideS∧RdF numC (.slice pz l.length c) l w)
    (fun w w' ⟨a,b,d,e⟩ hb=>⟨Stable.seg w w' a hb,Stable.seg w w' b hb,Stable.seg w w' d hb,e.mod (.of_below hb _)⟩) (by omega) (fun i hi=>c_valuesS1 p q g h l pz c i gS gG gP hl hn hq hb1 (by omega) (by omega))
  refine Fn.enter Tryz.func115 rfl rfl rfl ?_
  intro w hw
  repeat (first|refine Ta ?_|(refine Tm ?_;intro _)|refine WO.does (does_lssN rfl rfl (by omega)) ?_|refine WO.does (does_func rfl rfl) ?_|refine WO.does (does_gtrN rfl rfl (by omega)) ?_|refine Tc ?_|exact Tz)
  repeat (first|refine Ta ?_|(refine Tm ?_;intro _)|refine WO.does (does_func rfl rfl) ?_|refine WO.acallX (hc:=hC _ _ _) (hR:=fun w1 hm=>⟨Hs.seg (by repeat (first|exact Hs.here|apply Hs.there)) hm,Hs.seg (by repeat (first|exact Hs.here|apply Hs.there)) hm,Hs.seg (by repeat (first|exact Hs.here|apply Hs.there)) hm,hw.mod hm.mod⟩) (k:=fun s _=>?_)|refine Tc ?_|exact Tz)
  generalize s 0=g0
  repeat (first|refine Ta ?_|(refine Tm ?_;intro _)|refine Tc ?_|exact Tz)
  exact WX.ret2 rfl (by exact rv_tmp rfl) (by exact rv_tmp rfl) [⟨g0,24,(scL q l m).flatMap numC⟩] (Lle.cons (by repeat (first|exact Pk.here|apply Pk.there)) rfl Lle.nil) ⟨fun _=>g0,rfl,rfl,trivial⟩
set_option maxHeartbeats 1000000 in
theorem c_Secrets (hl:∀ a∈l,a<B256) (hn:l.length≤1099511627776) (hq:q<B256) (hb1:allN q l=true) (h1:1≤m) (hm:m≤3) (hmq:m<q) :
    Fn Tryz.prog 32 [grpV p q g h,.slice pz l.length c,.int .i64 (m:Int)] (RdF numC (.slice pz l.length c) l)
      (Ex (fun s=>.tuple #[.slice (some ⟨s 0,0,none⟩) m m,.int .i64 0]) (fun s=>[⟨s 0,24,(scL q l m).flatMap numC⟩]) (fun _=>True)):=by
  have hV:=c_valuesS p q g h l pz c m hl hn hq hb1 h1 hm hmq
  have hN:=c_secrets
  refine Fn.enter Tryz.func32 rfl rfl rfl ?_
  intro w hw
  repeat (first|refine Ta ?_|(refine Tm ?_;intro _)|refine Tc ?_|exact Tz)
  refine WC.adraw 9 (k:=?_)
  refine DQ.acall (hc:=hN) (k:=?_)
  iterate 3 (refine DQ.auto (k:=?_))
  refine DQ.callsE (fs:=fun _=>[]) (cs:=fun _=>[]) (R:=fun _=>RdF numC (.slice pz l.length c) l) (vf:=fun _ x=>.tuple #[.slice (some ⟨x 0,0,none⟩) m m,.int .i64 0]) (Nf:=fun _ x=>[⟨x 0,24,(scL q l m).flatMap numC⟩]) (S:=fun _ _=>True) (fun _=>[]) (fun _=>.nil)
    (fun _=>⟨fun _=>0,trivial⟩) (fun _ _=>hV) (fun _=>rfl) (fun _=>rfl) (fun _=>by simp) (fun _ _ w hm=>hw.mod hm.mod) Dp.const Dp.const Dp.const ?_
  try dsimp only[List.map_cons,List.map_nil,List.cons_append,List.nil_append]
  iterate 4 (refine DQ.auto (k:=?_))
  refine DQ.anil (k:=?_)
  intro sx _
  generalize sx 4 0=g0
  repeat (first|refine Ta ?_|(refine Tm ?_;intro _)|refine Tc ?_|exact Tz)
  exact WX.ret2 rfl (by exact rv_tmp rfl) (by exact rv_tmp rfl) [⟨g0,24,(scL q l m).flatMap numC⟩] (Lle.cons (by repeat (first|exact Pk.here|apply Pk.there)) rfl Lle.nil) ⟨fun _=>g0,rfl,rfl,trivial⟩
theorem c_valuesE (hl:∀ a∈l,a<B256) (hn:l.length≤1099511627776) (hq:q<B256) (hb1:allN q l=false) (h1:1≤m) (hm:m≤3) (hmq:m<q) :
    Fn Tryz.prog 115 [.agg sideS.toArray,grpV p q g h,.slice pz l.length c,.int .i64 (m:Int)] (RdF numC (.slice pz l.length c) l) (Is (.tuple #[.slice none 0 0,.int .i64 1])):=by
  have hC:=fun gS gG gP=>c_madeE (f:=206) [pt gG,pt gP,pt gS] 0 m 1 (fun w=>Seg w gG 0 (grpC p q g h)∧Seg w gP 0 [.slice pz l.length c]∧Seg w gS 0 sideS∧RdF numC (.slice pz l.length c) l w)
    (fun w w' ⟨a,b,d,e⟩ hb=>⟨Stable.seg w w' a hb,Stable.seg w w' b hb,Stable.seg w w' d hb,e.mod (.of_below hb _)⟩) h1 (by omega) (by decide) (c_valuesSE p q g h l pz c 0 gS gG gP hl hn hq hb1 (by omega) (by omega))
  refine Fn.enter Tryz.func115 rfl rfl rfl ?_
  intro w hw
  repeat (first|refine Ta ?_|(refine Tm ?_;intro _)|refine WO.does (does_lssN rfl rfl (by omega)) ?_|refine WO.does (does_func rfl rfl) ?_|refine WO.does (does_gtrN rfl rfl (by omega)) ?_|refine Tc ?_|exact Tz)
  repeat (first|refine Ta ?_|(refine Tm ?_;intro _)|refine WO.does (does_func rfl rfl) ?_|refine WO.acallR (hc:=hC _ _ _) (hR:=fun w1 hm=>⟨Hs.seg (by repeat (first|exact Hs.here|apply Hs.there)) hm,Hs.seg (by repeat (first|exact Hs.here|apply Hs.there)) hm,Hs.seg (by repeat (first|exact Hs.here|apply Hs.there)) hm,hw.mod hm.mod⟩) (k:=?_)|refine Tc ?_|exact Tz)
  done
theorem c_SecretsE (hl:∀ a∈l,a<B256) (hn:l.length≤1099511627776) (hq:q<B256) (hb1:allN q l=false) (h1:1≤m) (hm:m≤3) (hmq:m<q) :
    Fn Tryz.prog 32 [grpV p q g h,.slice pz l.length c,.int .i64 (m:Int)] (RdF numC (.slice pz l.length c) l) (Is (.tuple #[.slice none 0 0,.int .i64 1])):=by
  have hV:=c_valuesE p q g h l pz c m hl hn hq hb1 h1 hm hmq
  have hN:=c_secrets
  refine Fn.enter Tryz.func32 rfl rfl rfl ?_
  intro w hw
  repeat (first|refine Ta ?_|(refine Tm ?_;intro _)|refine Tc ?_|exact Tz)
  refine WC.adraw 9 (k:=?_)
  refine DQ.acall (hc:=hN) (k:=?_)
  iterate 3 (refine DQ.auto (k:=?_))
  refine DQ.acallM (hc:=hV) (hR:=fun w1 hm=>hw.mod hm.mod) (k:=?_)
  iterate 4 (refine DQ.auto (k:=?_))
  refine DQ.anil (k:=?_)
  intro sx _
  repeat (first|refine Ta ?_|(refine Tm ?_;intro _)|refine Tc ?_|exact Tz)
  done
end
end Sx
end Go.Proofs.YtiiacjladnljhaaGreatDoor
namespace Go.Proofs.YtiiacjladnljhaaGreatDoor
open Go Go.RowKit Go.BigFrame
namespace Sx
attribute [local irreducible] wd DQ DQS WO WC WX
def osN (p q h:Nat) (l:List Nat) (i:Nat):Nat:=exN p h (scN q l i)
def osL (p q h:Nat) (l:List Nat) (n:Nat):List Nat:=(List.range n).map (osN p q h l)
def shownB (p q g h:Nat) (f sec:Int) (N:List (Nat × Nat)) (l:List Nat):Bool:=setB p q g h f sec N && (decide ((l.length:Int)=f+sec) && allN q l)
abbrev nilE:Value:=.tuple #[.slice none 0 0,.int .i64 1]
def oV (p q h:Nat) (l:List Nat) (n i:Nat):List Value:=(List.range n).flatMap fun k=>numC (if k<i then osN p q h l k else scN q l k)
theorem oV_zero {p q h n:Nat} {l:List Nat}:oV p q h l n 0=(scL q l n).flatMap numC:=by
  unfold oV scL
  rw[List.flatMap_map]
  exact flat_congr fun k _=>by rw[if_neg (Nat.not_lt_zero _)]
theorem oV_full {p q h n:Nat} {l:List Nat}:oV p q h l n n=(osL p q h l n).flatMap numC:=by
  unfold oV osL
  rw[List.flatMap_map]
  exact flat_congr fun k hk=>by rw[if_pos (List.mem_range.1 hk)]
theorem oV_split {p q h n i:Nat} {l:List Nat} (hi:i<n) (j:Nat) (hj:j=i∨j=i+1):oV p q h l n j=((List.range i).flatMap fun k=>numC (osN p q h l k))++(numC (if i<j then osN p q h l i else scN q l i)++(List.range' (i+1) (n - (i+1))).flatMap fun k=>numC (scN q l k)):=by
  unfold oV
  rw[range_split hi,List.flatMap_append,List.flatMap_cons]
  congr 1
  · exact flat_congr fun k hk=>by rw[if_pos (by have:=List.mem_range.1 hk;omega)]
  · congr 1
    exact flat_congr fun k hk=>by rw[if_neg (by have:=(List.mem_range'_1.1 hk).1;omega)]
theorem oV_cut {p q h n i:Nat} {l:List Nat} (hi:i<n):cut (oV p q h l n i) (0+i*4) 4=numC (scN q l i):=by
  have hl:((List.range i).flatMap fun k=>numC (osN p q h l k)).length=i*4:=by rw[flat_length (f:=fun k=>numC (osN p q h l k)) (k:=4) (fun _=>rfl),List.length_range]
  rw[oV_split hi i (.inl rfl),if_neg (Nat.lt_irrefl i),Nat.zero_add,← hl]
  unfold cut
  rw[List.drop_left]
  rfl
theorem oV_over {p q h n i:Nat} {l:List Nat} (hi:i<n):over (oV p q h l n i) (0+i*4) (numC (osN p q h l i))=oV p q h l n (i+1):=by
  have hl:((List.range i).flatMap fun k=>numC (osN p q h l k)).length=i*4:=by rw[flat_length (f:=fun k=>numC (osN p q h l k)) (k:=4) (fun _=>rfl),List.length_range]
  rw[oV_split hi i (.inl rfl),oV_split hi (i+1) (.inr rfl),if_neg (Nat.lt_irrefl i),if_pos (Nat.lt_succ_self i),Nat.zero_add,← hl]
  rw[over_end]
  simp[numC]
theorem oV_len {p q h n i:Nat} {l:List Nat}:(oV p q h l n i).length=n*4:=by
  unfold oV
  rw[flat_length (f:=fun k=>numC (if k<i then osN p q h l k else scN q l k)) (k:=4) (fun _=>rfl),List.length_range]
theorem setB_more {p q g h:Nat} {f sec:Int} {N:List (Nat × Nat)} (hs:setB p q g h f sec N=true):sec≤3∧sec<(q:Int)∧sec≤f+1∧3*f+1≤(N.length:Int):=by
  unfold setB at hs
  simp only[Bool.and_eq_true,decide_eq_true_eq] at hs
  omega
section
variable (p q g h:Nat) (f:Int) (pt:Option Addr) (c:Nat) (N:List (Nat × Nat)) (pz:Option Addr) (cz:Nat) (l:List Nat)
set_option maxHeartbeats 4000000 in
theorem c_ShownN (sec:Int) (hp:p<B256) (hq:q<B256) (hg:g<B256) (hh:h<B256) (hN:NumsOk N) (hNl:N.length≤100) (hl:∀ a∈l,a<B256) (hn:l.length≤100)
    (hf1 : -9223372036854775808≤f) (hf2:f≤9223372036854775807) (hs1 : -9223372036854775808≤sec) (hs2:sec≤9223372036854775807) (hA:shownB p q g h f sec N l=false) :
    Fn Tryz.prog 10 [stV p q g h f sec (.slice pt N.length c),.slice pz l.length cz] (fun w=>RdF keyC (.slice pt N.length c) N w∧RdF numC (.slice pz l.length cz) l w) (Is nilE):=by
  have hS:=c_Setting p q g h f sec pt c N hp hq hg hh hN (by omega) hf1 hf2 hs1 hs2
  unfold shownB at hA
  cases e1:setB p q g h f sec N with
  | false =>
    rw[e1] at hS
    refine Fn.enter Tryz.func10 rfl rfl rfl ?_
    intro w hw
    obtain⟨hwK,hwY⟩:=hw
    repeat (first|refine Ta ?_|(refine Tm ?_;intro _)|refine WO.acallR (hc:=hS) (hR:=fun w hm=>(hwK.mod hm.mod).rdK) (k:=?_)|refine Tc ?_|exact Tz)
    done
  | true =>
  rw[e1] at hS hA
  have hsp:=setB_spec e1
  have hadd:IntKind.i64.wrap (f+sec)=f+sec:=i64_in (by omega) (by omega)
  by_cases he:(l.length:Int)=f+sec
  · rw[decide_eq_true he,Bool.true_and,Bool.true_and] at hA
    obtain⟨m,rfl⟩ : ∃ m:Nat,sec=(m:Int):=⟨sec.toNat,by omega⟩
    have hmo:=setB_more e1
    have hSe:=c_SecretsE p q g h l pz cz m hl (by omega) hq hA (by omega) (by omega) (by omega)
    refine Fn.enter Tryz.func10 rfl rfl rfl ?_
    intro w hw
    obtain⟨hwK,hwY⟩:=hw
    repeat (first|refine Ta ?_|(refine Tm ?_;intro _)|refine WO.acallR (hc:=hS) (hR:=fun w hm=>(hwK.mod hm.mod).rdK) (k:=?_)|refine WO.does (does_add rfl rfl hadd) ?_|refine WO.does (does_neqN rfl rfl he) ?_|refine WO.acallR (hc:=hSe) (hR:=fun w hm=>hwY.mod hm.mod) (k:=?_)|refine Tc ?_|exact Tz)
    done
  · refine Fn.enter Tryz.func10 rfl rfl rfl ?_
    intro w hw
    obtain⟨hwK,hwY⟩:=hw
    repeat (first|refine Ta ?_|(refine Tm ?_;intro _)|refine WO.acallR (hc:=hS) (hR:=fun w hm=>(hwK.mod hm.mod).rdK) (k:=?_)|refine WO.does (does_add rfl rfl hadd) ?_|refine WO.does (does_neqY rfl rfl he) ?_|refine Tc ?_|exact Tz)
    done
set_option maxHeartbeats 4000000 in
theorem c_ShownY (m:Nat) (hp:p<B256) (hq:q<B256) (hg:g<B256) (hh:h<B256) (hN:NumsOk N) (hNl:N.length≤100) (hl:∀ a∈l,a<B256) (hn:l.length≤100)
    (hf1 : -9223372036854775808≤f) (hf2:f≤9223372036854775807) (hs2:(m:Int)≤9223372036854775807) (hA:shownB p q g h f (m:Int) N l=true) :
    Fn Tryz.prog 10 [stV p q g h f (m:Int) (.slice pt N.length c),.slice pz l.length cz] (fun w=>RdF keyC (.slice pt N.length c) N w∧RdF numC (.slice pz l.length cz) l w)
      (Ex (fun s=>.tuple #[.slice (some ⟨s 0,0,none⟩) m m,.int .i64 0]) (fun s=>[⟨s 0,24,(osL p q h l m).flatMap numC⟩]) (fun _=>True)):=by
  have hS:=c_Setting p q g h f (m:Int) pt c N hp hq hg hh hN (by omega) hf1 hf2 (by omega) hs2
  unfold shownB at hA
  rw[Bool.and_eq_true,Bool.and_eq_true,decide_eq_true_eq] at hA
  obtain⟨e1,he,hall⟩:=hA
  rw[e1] at hS
  have hsp:=setB_spec e1
  have hadd:IntKind.i64.wrap (f+(m:Int))=f+(m:Int):=i64_in (by omega) (by omega)
  have hmo:=setB_more e1
  have hm3:m≤3:=by omega
  have hSe:=c_Secrets p q g h l pz cz m hl (by omega) hq hall (by omega) hm3 (by omega)
  have hq0:0<q:=by omega
  clear e1
  refine Fn.enter Tryz.func10 rfl rfl rfl ?_
  intro w hw
  obtain⟨hwK,hwY⟩:=hw
  repeat (first|refine Ta ?_|(refine Tm ?_;intro _)|refine WO.acallR (hc:=hS) (hR:=fun w hm=>(hwK.mod hm.mod).rdK) (k:=?_)|refine WO.does (does_add rfl rfl hadd) ?_|refine WO.does (does_neqN rfl rfl he) ?_|refine WO.acallX (hc:=hSe) (hR:=fun w hm=>hwY.mod hm.mod) (k:=fun s _=>?_)|refine Tc ?_|exact Tz)
  rename_i gS _
  generalize s 0=gO
  clear s
  repeat (first|refine Ta ?_|(refine Tm ?_;intro _)|refine Tc ?_|exact Tz)
  refine WC.loopI (σ:=Nat) (fun i=>i≤m) (fun i=>[(2,Sx.pt gS),(6,.slice (some ⟨gO,0,none⟩) m m),(35,.slice (some ⟨gO,0,none⟩) m m),(36,.int .i64 (m:Int)),(37,.int .i64 (i:Int))]) (fun i=>[⟨gO,24,oV p q h l m i⟩,⟨gS,29,stC p q g h f (m:Int) (.slice pt N.length c)⟩]) (fun i=>m - i) 0 (fun i hi=>?_) (Nat.zero_le _) (hl:=by rw[oV_zero];repeat (first|exact Lle.nil|refine Lle.cons (by repeat (first|exact Pk.here|apply Pk.there)) rfl ?_))
  try dsimp only at hi ⊢
  by_cases hlt:i<m
  · have hadd2:IntKind.i64.wrap ((i:Int)+1)=((i+1:Nat):Int):=i64_in' (by omega) (by omega) (by omega)
    have hE:=c_gExp p q g h h (scN q l i) hh (Nat.lt_trans (Nat.mod_lt _ hq0) hq) hp
    simp only[rE] at hE
    rw[show okV (gMay p h) (h ^ scN q l i%p)=osN p q h l i from rfl] at hE
    have hcu:=oV_cut (p:=p) (q:=q) (h:=h) (l:=l) hlt
    have hov:=oV_over (p:=p) (q:=q) (h:=h) (l:=l) hlt
    have hln:Nat.ble (0+i*4+4) (oV p q h l m i).length=true:=by rw[oV_len,Nat.ble_eq];omega
    generalize hV2:oV p q h l m (i+1)=V2 at *
    generalize oV p q h l m i=V1 at *
    generalize scN q l i=s1 at *
    generalize osN p q h l i=s2 at *
    repeat (first|refine Ta ?_|(refine Tm ?_;intro _)|refine Tc ?_|exact Tz)
    refine WC.dT rfl (by omega) ?_
    repeat (first|refine Ta ?_|(refine Tm ?_;intro _)|refine WO.does (does_indexSlice (o':=0+i*4) rfl rfl hlt rfl) ?_|refine WO.does (a_load (vs:=numC s1) (hc:=hcu)) ?_|refine WO.acall (hc:=hE) (k:=?_)|refine Tc ?_|exact Tz)
    refine WO.stores (a_store (vs:=numC s2) (cs':=V2) (hc:=hov) (hle:=hln)) ?_
    repeat (first|refine Ta ?_|(refine Tm ?_;intro _)|refine WO.does (does_add rfl rfl hadd2) ?_|refine Tc ?_|exact Tz)
    subst hV2
    exact WX.metI (i+1) (hs:=⟨by show i+1≤m;omega,by show m - (i+1)<m - i;omega⟩)
  · have hi2:i=m:=by omega
    subst hi2
    rw[oV_full]
    repeat (first|refine Ta ?_|(refine Tm ?_;intro _)|refine Tc ?_|exact Tz)
    refine WC.dF rfl (by omega) ?_
    repeat (first|refine Ta ?_|(refine Tm ?_;intro _)|refine Tc ?_|exact Tz)
    exact WX.ret2 rfl (by exact rv_tmp rfl) (by exact rv_tmp rfl) [⟨gO,24,(osL p q h l i).flatMap numC⟩] (Lle.cons (by repeat (first|exact Pk.here|apply Pk.there)) rfl Lle.nil) ⟨fun _=>gO,rfl,rfl,trivial⟩
end
end Sx
end Go.Proofs.YtiiacjladnljhaaGreatDoor
