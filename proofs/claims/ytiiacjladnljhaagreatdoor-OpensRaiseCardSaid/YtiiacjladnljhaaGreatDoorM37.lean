/- Part 37 of the proof: SyG, WrB, PdA, PdB, RaA -/
import Derived.Test.YtiiacjladnljhaaGreatDoorM31
import Derived.Test.YtiiacjladnljhaaGreatDoorM36
import Derived.Test.YtiiacjladnljhaaGreatDoorM21
import Derived.Test.YtiiacjladnljhaaGreatDoorM35
set_option linter.unusedSimpArgs false
set_option linter.unusedVariables false
namespace Go.Proofs.YtiiacjladnljhaaGreatDoor
open Go Go.RowKit Go.BigFrame
namespace Sx
theorem mkz_dropZ {k m:Nat} {z:List Value} (h:m≤k):(mkz k z).drop (m*z.length)=mkz (k - m) z:=by
  have e:mkz k z=mkz m z++mkz (k - m) z:=by
    unfold mkz
    rw[← List.flatten_append,List.replicate_append_replicate,show m+(k - m)=k by omega]
  rw[e,← mkz_length m z,List.drop_left]
section
variable {P:Program} {w0:World} {gs:List Nat} {n:Nat} {ops:List Oper} {Q:Exit→Act→World→Prop} {K:List (Nat × Value)} {L:List Ent} {rest:List Oper}
variable {d:Nat} {ty:TypeId} {pos:String} {after:Array Edge} {gd:Option (Nat × Bool)}
theorem WO.appKZ {st xt e size bts g len cap m l:Nat} {z xs ys:List Value} {x y:Operand} {v:Value} {L2:List Ent} [SlT P st e size] [SlT P xt e size] [ElT P e bts z] (hs:size=z.length) (hx:ev K x=some (.slice (some ⟨g,0,none⟩) len cap)) (hy:ev K y=some v)
    (hxl:xs.length=len*z.length) (hlc:len≤cap) (hp:Pk L g e (xs++mkz (cap - len) z) L2) (hr:Rds w0 gs L v m ys) (hyl:ys.length=m*z.length) (h1:ys.all Value.oneCell'=true) (hl:len+m=l) (hlb:l<9223372036854775808) (hc:cap<9223372036854775808) (hnc:l*bts≤140737488355328) (hb:bts≠0) (ht:e≠0)
    (k:∀ g' c',c' < 9223372036854775808→l≤c'→WO P w0 gs n ops Q ((d,.slice (some ⟨g',0,none⟩) l c')::K) (⟨g',e,xs++ys++mkz (c' - l) z⟩::L2) rest) (hd:Nat.blt d n=true:=by rfl) (hw:wk ops K gd=some true:=by rfl) :
    WO P w0 gs n ops Q K L (⟨some d,.call { callee:=.builtin .append,args:=#[x,y],argTypes:=#[st,xt] },ty,pos,after,gd⟩::rest):=by
  subst hl
  intro a w hdf hsz hk hme
  have hr1:=hr.perm hp.perm
  have key:WO P w0 gs n ops Q K (⟨g,e,xs++mkz (cap - len) z⟩::L2) (⟨some d,.call { callee:=.builtin .append,args:=#[x,y],argTypes:=#[st,xt] },ty,pos,after,gd⟩::rest):=by
    by_cases hroom:len+m≤cap
    · have hle:(len+m)*z.length≤cap*z.length:=Nat.mul_le_mul_right _ hroom
      have hcl:len*z.length+(cap - len)*z.length=cap*z.length:=by rw[← Nat.add_mul];congr 1;omega
      have hcap:(xs++mkz (cap - len) z).length=cap*z.length:=by rw[List.length_append,mkz_length,hxl];exact hcl
      rw[Nat.add_mul] at hle
      have hov:over (xs++mkz (cap - len) z) (len*z.length) ys=xs++ys++mkz (cap - (len+m)) z:=by
        rw[← hxl,over_end,hyl,mkz_dropZ (by omega),show cap - len - m=cap - (len+m) by omega]
      exact WO.both (app_room (s:=undef) (z:=z) hx hy hr1 hyl hroom h1 Rp.here hov (by rw[hcap,hyl];exact hle) hs ht) (k g cap hc hroom) hd hw
    · refine WO.news (app_new (z:=z) (n:=m) hx hy (ys:=xs) (Rds.own (m:=len*z.length) Hs.here (by unfold cut;rw[List.drop_zero,← hxl,List.take_left])) hxl hr1 hyl (by omega) hlb (growslice_fits (by omega) hnc) hb hs) (fun s hs=>?_) hd hw
      have hk2:=k (s 0) (s 1) hs.2 hs.1
      exact fun a w h1 h2 h3 h4=>hk2 a w h1 h2 h3 (h4.sub (by simp))
  exact key a w hdf hsz hk (hme.perm hp.perm)
theorem WO.appNZ {st xt e size bts m:Nat} {z ys:List Value} {x y:Operand} {v:Value} [SlT P st e size] [SlT P xt e size] [ElT P e bts z] (hs:size=z.length) (hx:ev K x=some (.slice none 0 0)) (hy:ev K y=some v)
    (hr:Rds w0 gs L v m ys) (hyl:ys.length=m*z.length) (hm:0<m) (hlb:m<9223372036854775808) (hnc:m*bts≤140737488355328) (hb:bts≠0)
    (k:∀ g' c',c' < 9223372036854775808→m≤c'→WO P w0 gs n ops Q ((d,.slice (some ⟨g',0,none⟩) m c')::K) (⟨g',e,ys++mkz (c' - m) z⟩::L) rest) (hd:Nat.blt d n=true:=by rfl) (hw:wk ops K gd=some true:=by rfl) :
    WO P w0 gs n ops Q K L (⟨some d,.call { callee:=.builtin .append,args:=#[x,y],argTypes:=#[st,xt] },ty,pos,after,gd⟩::rest):=by
  refine WO.news (app_new (z:=z) (n:=m) hx hy (ys:=[]) Rds.nil (by simp) hr hyl (by omega) (by omega) (by rw[Nat.zero_add];exact growslice_fits (by omega) hnc) hb hs) (fun s hs=>?_) hd hw
  obtain⟨h1,h2⟩:=hs
  rw[Nat.zero_add] at h1
  rw[Nat.zero_add]
  have hk2:=k (s 0) (s 1) h2 h1
  simpa using hk2
end
end Sx
end Go.Proofs.YtiiacjladnljhaaGreatDoor
namespace Go.Proofs.YtiiacjladnljhaaGreatDoor
open Go Go.RowKit Go.BigFrame
namespace Sx
attribute [local irreducible] wd DQ DQS WO WC WX
section
variable (p q g h:Nat)
set_option maxHeartbeats 1000000 in
theorem r10_points (l:List Nat) (pt:Option Addr) (c:Nat) (hP:PtsOk q l) (h1:1<q) (hq:q<B256) :
    Fn Tryz.prog 200 [grpV p q g h,.slice pt l.length c] (RdF numC (.slice pt l.length c) l) (Is (.bool true)):=by
  have hlb:∀ y∈l,y<B256:=fun y hy=>Nat.lt_trans (hP.lt y hy) hq
  have hM:=r10_All p q g h l pt c hlb (by have:=hP.len;omega) hq
  rw[show allN q l=true by unfold allN;simp only[Bool.and_eq_true,decide_eq_true_eq,List.all_eq_true];exact⟨h1,fun y hy=>hP.lt y hy⟩] at hM
  have hnn:0<l.length:=List.length_pos_iff.2 hP.ne
  have hl7:=hP.len
  refine Fn.enter Tryz.func200 rfl rfl rfl ?_
  intro w hw
  repeat (first|refine Ta ?_|(refine Tm ?_;intro _)|refine WO.does (does_eqlN rfl rfl (by omega)) ?_|refine WO.acallR (hc:=hM) (hR:=fun w1 hm=>hw.mod hm.mod) (k:=?_)|refine Tc ?_|exact Tz)
  rename_i gG
  refine WC.loopI (σ:=Nat) (fun i=>i≤l.length) (fun i=>[(1,.slice pt l.length c),(2,Sx.pt gG),(5,.int .i64 (i:Int))]) (fun i=>[]) (fun i=>l.length - i) 0 (fun i hi=>?_) (Nat.zero_le _)
  try dsimp only at hi ⊢
  by_cases hlt:i<l.length
  · obtain⟨x,hx⟩ : ∃ y,l[i]?=some y:=⟨_,List.getElem?_eq_getElem hlt⟩
    have hxm:=List.mem_of_getElem? hx
    obtain⟨b,o,rfl,_,hs⟩:=id hw |>.get hx
    have hadd2:IntKind.i64.wrap ((i:Int)+1)=((i+1:Nat):Int):=i64_in' (by omega) (by omega) (by omega)
    have hcx:cut (l.flatMap numC) (o+i*4 - o) 4=numC x:=by rw[Nat.add_sub_cancel_left];exact cut_flatP (f:=numC) (k:=4) (fun _=>rfl) hx
    repeat (first|refine Ta ?_|(refine Tm ?_;intro _)|refine Tc ?_|exact Tz)
    refine WC.dT rfl (by omega) ?_
    repeat (first|refine Ta ?_|(refine Tm ?_;intro _)|refine Tc ?_|exact Tz)
    refine WC.loopI (σ:=Nat) (fun k=>k≤i) (fun k=>[(1,.slice (some ⟨b,o,none⟩) l.length c),(2,Sx.pt gG),(5,.int .i64 (i:Int)),(6,.int .i64 (k:Int))]) (fun k=>[]) (fun k=>i - k) 0 (fun k hk=>?_) (Nat.zero_le _)
    try dsimp only at hk ⊢
    by_cases hki:k<i
    · have hkl:k<l.length:=by omega
      obtain⟨y,hy⟩ : ∃ y,l[k]?=some y:=⟨_,List.getElem?_eq_getElem hkl⟩
      have hym:=List.mem_of_getElem? hy
      have hadd3:IntKind.i64.wrap ((k:Int)+1)=((k+1:Nat):Int):=i64_in' (by omega) (by omega) (by omega)
      have hcy:cut (l.flatMap numC) (o+k*4 - o) 4=numC y:=by rw[Nat.add_sub_cancel_left];exact cut_flatP (f:=numC) (k:=4) (fun _=>rfl) hy
      have d:decide (x=y)=false:=decide_eq_false (fun e=>by
        obtain⟨k1,e1⟩:=List.getElem?_eq_some_iff.1 hy
        obtain⟨k2,e2⟩:=List.getElem?_eq_some_iff.1 hx
        exact List.pairwise_iff_getElem.1 hP.nd k i k1 k2 hki (by rw[e1,e2];exact e.symm))
      repeat (first|refine Ta ?_|(refine Tm ?_;intro _)|refine Tc ?_|exact Tz)
      refine WC.dT rfl (by omega) ?_
      repeat (first|refine Ta ?_|(refine Tm ?_;intro _)|refine Tc ?_|exact Tz)
      refine WC.adraw 9 (k:=?_)
      iterate 2 (refine DQ.auto (k:=?_))
      refine DQ.does (fun s _=>does_indexSlice (o':=o+i*4) rfl rfl hlt rfl) Dp.const ?_
      refine DQ.does (fun s _=>a_loadF (vs:=numC x) (hs:=hs) (hle:=Nat.le_add_right _ _) (hc:=hcx)) Dp.const ?_
      iterate 2 (refine DQ.auto (k:=?_))
      refine DQ.does (fun s _=>does_indexSlice (o':=o+k*4) rfl rfl hkl rfl) Dp.const ?_
      refine DQ.does (fun s _=>a_loadF (vs:=numC y) (hs:=hs) (hle:=Nat.le_add_right _ _) (hc:=hcy)) Dp.const ?_
      refine DQ.does (fun s _=>a_eqNumV rfl rfl (hlb x hxm) (hlb y hym) d) Dp.const ?_
      refine DQ.anil (k:=?_)
      intro sx _
      repeat (first|refine Ta ?_|(refine Tm ?_;intro _)|refine WO.does (does_add rfl rfl hadd3) ?_|refine Tc ?_|exact Tz)
      exact WX.metI (k+1) (hs:=⟨by show k+1≤i;omega,by show i - (k+1)<i - k;omega⟩)
    · have hk2:k=i:=by omega
      subst hk2
      repeat (first|refine Ta ?_|(refine Tm ?_;intro _)|refine Tc ?_|exact Tz)
      refine WC.dF rfl (by omega) ?_
      repeat (first|refine Ta ?_|(refine Tm ?_;intro _)|refine WO.does (does_add rfl rfl hadd2) ?_|refine Tc ?_|exact Tz)
      exact WX.metI (k+1) (hs:=⟨by show k+1≤l.length;omega,by show l.length - (k+1)<l.length - k;omega⟩)
  · have hi2:i=l.length:=by omega
    subst hi2
    repeat (first|refine Ta ?_|(refine Tm ?_;intro _)|refine Tc ?_|exact Tz)
    refine WC.dF rfl (by omega) ?_
    repeat (first|refine Ta ?_|(refine Tm ?_;intro _)|refine Tc ?_|exact Tz)
def NewWr (e:Int) (n:Nat) (cs:List Value):Value→List Ent→Prop:=fun v N=>(e≠0∧v=.tuple #[.slice none 0 0,.int .i64 7]∧N=[])∨(e=0∧∃ g c,n≤c∧v=.tuple #[.slice (some ⟨g,0,none⟩) n c,.int .i64 0]∧N=[⟨g,24,cs++mkz (c - n) (numC 0)⟩])
set_option maxHeartbeats 4000000 in
theorem r10_Weights (l:List Nat) (pt:Option Addr) (c x:Nat) (hP:PtsOk q l) (h1:1<q) (hx:x<q) (hq:q<B256) :
    Fn Tryz.prog 113 [grpV p q g h,.slice pt l.length c,numV x] (RdF numC (.slice pt l.length c) l) (NewWr (wtE q l l.length) l.length ((wts q l x).flatMap numC)):=by
  have hPt:=r10_points p q g h l pt c hP h1 hq
  have hB:=r10_below p q g h x (Nat.lt_trans hx hq) hq
  rw[may_t h1 hx hx] at hB
  have hl7:=hP.len
  have hlt':=hP.lt
  have hnn:0<l.length:=List.length_pos_iff.2 hP.ne
  clear hP
  refine Fn.enter Tryz.func113 rfl rfl rfl ?_
  intro w hw
  repeat (first|refine Ta ?_|(refine Tm ?_;intro _)|refine WO.acallR (hc:=hPt) (hR:=fun w1 hm=>hw.mod hm.mod) (k:=?_)|refine WO.acall (hc:=hB) (k:=?_)|refine Tc ?_|exact Tz)
  rename_i gG gX
  refine WC.loopI (σ:=Nat × Nat × Nat) (fun s=>s.1≤l.length∧wtE q l s.1=0∧(0<s.1→s.2.2<9223372036854775808∧s.1≤s.2.2)) (fun s=>[(1,.slice pt l.length c),(3,Sx.pt gG),(5,Sx.pt gX),(8,agV s.2.1 s.2.2 s.1 s.1),(9,.int .i64 (s.1:Int))])
    (fun s=>⟨gX,24,numC x⟩::⟨gG,26,grpC p q g h⟩::naL s.2.1 (((List.range s.1).map (wtN q l x)).flatMap numC) (mkz (s.2.2 - s.1) (numC 0)) s.1) (fun s=>l.length - s.1) (0,0,0) (fun s hi=>?_) ⟨Nat.zero_le _,rfl,fun h=>absurd h (by decide)⟩
  obtain⟨i,g0,c0⟩:=s
  try dsimp only at hi ⊢
  obtain⟨hi,hE,hr⟩:=hi
  by_cases hlt:i<l.length
  · obtain⟨li,hli⟩ : ∃ y,l[i]?=some y:=⟨_,List.getElem?_eq_getElem hlt⟩
    have hld:l.getD i 0=li:=by simp[List.getD,hli]
    have hadd2:IntKind.i64.wrap ((i:Int)+1)=((i+1:Nat):Int):=i64_in' (by omega) (by omega) (by omega)
    have hUn:=r10_under p q g h l pt c i li h1 hlt' (by omega) hli hq
    have hst:=wtE_step hE
    rw[hld] at hst
    cases hcp:copB q (dif q l i li l.length) with
    | false =>
      rw[hcp,if_neg (by decide)] at hUn hst
      have hEn:wtE q l l.length≠0:=wtE_mono (i:=i+1) (by rw[hst];decide) (by omega)
      generalize naL g0 (((List.range i).map (wtN q l x)).flatMap numC) (mkz (c0 - i) (numC 0)) i=TL
      generalize agV g0 c0 i i=aV
      repeat (first|refine Ta ?_|(refine Tm ?_;intro _)|refine Tc ?_|exact Tz)
      refine WC.dT rfl (by omega) ?_
      repeat (first|refine Ta ?_|(refine Tm ?_;intro _)|refine WO.acallR (hc:=hUn) (hR:=fun w1 hm=>hw.mod hm.mod) (k:=?_)|refine Tc ?_|exact Tz)
      exact WX.ret2 rfl (by exact rv_tmp rfl) (by exact rv_tmp rfl) [] Lle.nil (.inl ⟨hEn,rfl,rfl⟩)
    | true =>
      rw[hcp,if_pos rfl] at hUn hst
      rw[← inv_prM h1 _ (dif_lt (by omega)) hcp,show invN (prM q 1 (dif q l i li l.length)) q=wtI q l i by unfold wtI;rw[hld]] at hUn
      have hsn:((List.range i).map (wtN q l x)).flatMap numC++numC (wtN q l x i)=((List.range (i+1)).map (wtN q l x)).flatMap numC:=by rw[range_take_succ,List.flatMap_append];simp
      have hBl:(((List.range i).map (wtN q l x)).flatMap numC).length=i*4:=by rw[flat_length numC_len];simp
      have hWl:=wtI_lt (q:=q) (l:=l) (i:=i) h1
      have hwn:wtN q l x i=prM q (wtI q l i) (dif q l i x l.length):=rfl
      generalize hB2:((List.range (i+1)).map (wtN q l x)).flatMap numC=B2 at *
      generalize hB1:((List.range i).map (wtN q l x)).flatMap numC=B1 at *
      generalize hV:wtN q l x i=V at *
      generalize wtI q l i=wi at *
      generalize hTL:naL g0 B1 (mkz (c0 - i) (numC 0)) i=TL
      generalize hAV:agV g0 c0 i i=aV
      repeat (first|refine Ta ?_|(refine Tm ?_;intro _)|refine Tc ?_|exact Tz)
      refine WC.dT rfl (by omega) ?_
      repeat (first|refine Ta ?_|(refine Tm ?_;intro _)|refine WO.acallR (hc:=hUn) (hR:=fun w1 hm=>hw.mod hm.mod) (k:=?_)|refine Tc ?_|exact Tz)
      rename_i gW
      refine WC.loopI (σ:=Nat) (fun k=>k≤l.length) (fun k=>[(1,.slice pt l.length c),(3,Sx.pt gG),(5,Sx.pt gX),(8,aV),(9,.int .i64 (i:Int)),(10,Sx.pt gW),(12,.int .i64 (k:Int))]) (fun k=>⟨gW,24,numC (prM q wi (dif q l i x k))⟩::⟨gX,24,numC x⟩::⟨gG,26,grpC p q g h⟩::TL) (fun k=>l.length - k) 0 (fun k hk=>?_) (Nat.zero_le _) (hl:=Lle.same)
      try dsimp only at hk ⊢
      by_cases hkl:k<l.length
      · have hadd3:IntKind.i64.wrap ((k:Int)+1)=((k+1:Nat):Int):=i64_in' (by omega) (by omega) (by omega)
        by_cases hki:k=i
        · have hd:=dif_same (q:=q) (l:=l) (x:=x) hki
          rw[← hd]
          repeat (first|refine Ta ?_|(refine Tm ?_;intro _)|refine Tc ?_|exact Tz)
          refine WC.dT rfl (by omega) ?_
          repeat (first|refine Ta ?_|(refine Tm ?_;intro _)|refine WO.does (does_neqN rfl rfl (by omega)) ?_|refine WO.does (does_add rfl rfl hadd3) ?_|refine Tc ?_|exact Tz)
          exact WX.metI (k+1) (hl:=Lle.same) (hs:=⟨by show k+1≤l.length;omega,by show l.length - (k+1)<l.length - k;omega⟩)
        · obtain⟨y,hy⟩ : ∃ y,l[k]?=some y:=⟨_,List.getElem?_eq_getElem hkl⟩
          obtain⟨b,o,e,_,hs⟩:=id hw |>.get hy
          subst e
          have hck:cut (l.flatMap numC) (o+k*4 - o) 4=numC y:=by rw[Nat.add_sub_cancel_left];exact cut_flatP (f:=numC) (k:=4) (fun _=>rfl) hy
          have hd:=dif_next (q:=q) (x:=x) hki hy
          have hvl:(x+q - y)%q<q:=Nat.mod_lt _ (by omega)
          have hLs:=r10_less1 p q g h x y h1 hx (hlt' y (List.mem_of_getElem? hy)) hq
          have hTm:=r10_times1 p q g h (prM q wi (dif q l i x k)) ((x+q - y)%q) h1 (prM_lt (by omega) hWl _) hvl hq
          rw[← prM_snoc,← hd] at hTm
          clear hd
          generalize (x+q - y)%q=v at *
          repeat (first|refine Ta ?_|(refine Tm ?_;intro _)|refine Tc ?_|exact Tz)
          refine WC.dT rfl (by omega) ?_
          repeat (first|refine Ta ?_|(refine Tm ?_;intro _)|refine WO.does (does_neqY rfl rfl (by omega)) ?_|refine Tc ?_|exact Tz)
          refine WC.adraw 10 (k:=?_)
          iterate 6 (refine DQ.auto (k:=?_))
          refine DQ.does (fun s _=>does_indexSlice (o':=o+k*4) rfl rfl hkl rfl) Dp.const ?_
          refine DQ.does (fun s _=>a_loadF (vs:=numC y) (hs:=hs) (hle:=Nat.le_add_right _ _) (hc:=hck)) Dp.const ?_
          repeat (first|refine Da ?_|refine DQ.acall (hc:=hLs) (k:=?_)|refine DQ.acall (hc:=hTm) (k:=?_)|refine Dc ?_)
          refine DQ.anil (k:=?_)
          intro sx _
          repeat (first|refine Ta ?_|(refine Tm ?_;intro _)|refine WO.does (does_add rfl rfl hadd3) ?_|refine Tc ?_|exact Tz)
          exact WX.metI (k+1) (hl:=Lle.same) (hs:=⟨by show k+1≤l.length;omega,by show l.length - (k+1)<l.length - k;omega⟩)
      · have hk2:k=l.length:=by omega
        subst hk2
        rw[← hwn]
        rcases i with _|i
        · have e1:B1=[]:=List.length_eq_zero_iff.1 (by omega)
          subst e1 hTL hAV
          rw[List.nil_append] at hsn
          try dsimp only[agV,naL]
          repeat (first|refine Ta ?_|(refine Tm ?_;intro _)|refine Tc ?_|exact Tz)
          refine WC.dF rfl (by omega) ?_
          repeat (first|refine Ta ?_|(refine Tm ?_;intro _)|(refine WO.makes (makes_build (cs:=numC V) rfl (by decide) rfl) ?_;intro _)|refine Tc ?_|exact Tz)
          refine WO.appNZ (z:=numC 0) (ys:=numC V) (m:=1) rfl rfl rfl (Rds.own (m:=4) Hs.here rfl) rfl (by decide) (by decide) (by decide) (by decide) (fun g1 c1 a2 a3=>?_)
          rw[hsn]
          repeat (first|refine Ta ?_|(refine Tm ?_;intro _)|refine WO.does (does_add rfl rfl hadd2) ?_|refine Tc ?_|exact Tz)
          subst hB2
          exact WX.metI (1,g1,c1) (hs:=⟨⟨by show 0+1≤l.length;omega,hst,fun _=>⟨a2,a3⟩⟩,by show l.length - (0+1)<l.length - 0;omega⟩)
        · obtain⟨r2,r3⟩:=hr (by omega)
          subst hTL hAV
          try dsimp only[agV,naL]
          repeat (first|refine Ta ?_|(refine Tm ?_;intro _)|refine Tc ?_|exact Tz)
          refine WC.dF rfl (by omega) ?_
          repeat (first|refine Ta ?_|(refine Tm ?_;intro _)|(refine WO.makes (makes_build (cs:=numC V) rfl (by decide) rfl) ?_;intro _)|refine Tc ?_|exact Tz)
          refine WO.appKZ (z:=numC 0) (m:=1) (l:=i+1+1) rfl rfl rfl (xs:=B1) (ys:=numC V) hBl r3 (by repeat (first|exact Pk.here|apply Pk.there)) (Rds.own (m:=4) Hs.here rfl) rfl rfl rfl (by omega) r2 (by omega) (by decide) (by decide) (fun g1 c1 a2 a3=>?_)
          rw[hsn]
          repeat (first|refine Ta ?_|(refine Tm ?_;intro _)|refine WO.does (does_add rfl rfl hadd2) ?_|refine Tc ?_|exact Tz)
          subst hB2
          exact WX.metI (i+1+1,g1,c1) (hs:=⟨⟨by show i+1+1≤l.length;omega,hst,fun _=>⟨a2,a3⟩⟩,by show l.length - (i+1+1)<l.length - (i+1);omega⟩)
  · have hi2:i=l.length:=by omega
    subst hi2
    rw[show (List.range l.length).map (wtN q l x)=wts q l x from rfl]
    generalize (wts q l x).flatMap numC=B at *
    generalize hn:l.length=n at *
    obtain⟨i,rfl⟩ : ∃ k,n=k+1:=⟨n - 1,by omega⟩
    try dsimp only[agV,naL,List.cons_append,List.nil_append]
    repeat (first|refine Ta ?_|(refine Tm ?_;intro _)|refine Tc ?_|exact Tz)
    refine WC.dF rfl (by omega) ?_
    repeat (first|refine Ta ?_|(refine Tm ?_;intro _)|refine Tc ?_|exact Tz)
    exact WX.ret2 rfl (by exact rv_tmp rfl) (by exact rv_tmp rfl) [⟨g0,24,B++mkz (c0 - (i+1)) (numC 0)⟩] (Lle.cons (by repeat (first|exact Pk.here|apply Pk.there)) rfl Lle.nil) (.inr ⟨hE,g0,c0,(hr (by omega)).2,rfl,rfl⟩)
end
end Sx
end Go.Proofs.YtiiacjladnljhaaGreatDoor
namespace Go.Proofs.YtiiacjladnljhaaGreatDoor
open Go Go.RowKit Go.BigFrame
namespace Sx
attribute [local irreducible] wd DQ DQS WO WC WX
theorem mayN_lt {a b p:Nat} (h1:1<p) (ha:a<p) (hb:b<p):mayN a b p=true:=by simp[mayN,h1,ha,hb]
section
variable (p q g h:Nat)
set_option maxHeartbeats 2000000 in
theorem r8_Product (hp:p<B256) (h1:1<p) (xs:List (PwT p)) (pa pn:Option Addr) (cA cN:Nat) (hn:xs.length≤100) :
    Fn Tryz.prog 114 [grpV p q g h,.slice pa xs.length cA,.slice pn xs.length cN]
      (fun w=>RdF numC (.slice pa xs.length cA) (xs.map fun x=>x.1.1) w∧RdF numC (.slice pn xs.length cN) (xs.map fun x=>x.1.2) w) (Is (.tuple #[numV (prodN p xs),.int .i64 0])):=by
  have hC:=r_Cmp p 1 hp B256_one'
  rw[cmpN_gt h1] at hC
  refine Fn.enter Tryz.func114 rfl rfl rfl ?_
  intro w hw
  obtain⟨hwA,hwN⟩:=hw
  repeat (first|refine Ta ?_|(refine Tm ?_;intro _)|refine Tc ?_|exact Tz)
  refine WC.adraw 12 (k:=?_)
  repeat (first|refine Da ?_|refine DQ.acall (hc:=r_one) (k:=?_)|refine DQ.acall (hc:=hC) (k:=?_)|refine Dc ?_)
  refine DQ.anil (k:=?_)
  intro sx _
  repeat (first|refine Ta ?_|(refine Tm ?_;intro _)|refine Tc ?_|exact Tz)
  refine WC.condF (show some (Value.bool (decide ((xs.length:Int)≠(xs.length:Int))))=some (Value.bool false) by simp) ?_
  repeat (first|refine Ta ?_|(refine Tm ?_;intro _)|refine WO.acall (hc:=r_one) (k:=?_)|refine Tc ?_|exact Tz)
  rename_i g3 g6 _ g8
  refine WC.loopI (σ:=Nat) (fun i=>i≤xs.length) (fun i=>[(1,.slice pa xs.length cA),(2,.slice pn xs.length cN),(3,pt g3),(6,pt g6),(8,pt g8),(9,.int .i64 (i:Int))]) (fun i=>[⟨g8,24,numC (prodN p (xs.take i))⟩,⟨g6,24,numC 0⟩,⟨g3,26,grpC p q g h⟩]) (fun i=>xs.length - i) 0 (fun i hi=>?_) (Nat.zero_le _)
  try dsimp only at hi ⊢
  by_cases hlt:i<xs.length
  · obtain⟨x,hx⟩ : ∃ y,xs[i]?=some y:=⟨_,List.getElem?_eq_getElem hlt⟩
    have hxs:xs.take i++[x]=xs.take (i+1):=by rw[List.take_add_one,hx];rfl
    have hpr:=prodN_snoc p (xs.take i) x
    rw[hxs] at hpr
    have hpl:=prodN_lt h1 (xs.take i)
    generalize hP2:prodN p (xs.take (i+1))=P2 at *
    generalize prodN p (xs.take i)=P1 at *
    obtain⟨⟨xa,xn⟩,hxa,hxn,hxm⟩:=x
    dsimp only at hxa hxn hxm hpr
    obtain⟨bA,oA,e,_,hsA⟩:=hwA.get (i:=i) (x:=xa) (by rw[List.getElem?_map,hx];rfl)
    subst e
    obtain⟨bN,oN,e,_,hsN⟩:=hwN.get (i:=i) (x:=xn) (by rw[List.getElem?_map,hx];rfl)
    subst e
    have hcA:cut ((xs.map fun x=>x.1.1).flatMap numC) (oA+i*4 - oA) 4=numC xa:=by rw[Nat.add_sub_cancel_left];exact cut_flatP (f:=numC) (k:=4) (fun _=>rfl) (by rw[List.getElem?_map,hx];rfl)
    have hcN:cut ((xs.map fun x=>x.1.2).flatMap numC) (oN+i*4 - oN) 4=numC xn:=by rw[Nat.add_sub_cancel_left];exact cut_flatP (f:=numC) (k:=4) (fun _=>rfl) (by rw[List.getElem?_map,hx];rfl)
    have hadd2:IntKind.i64.wrap ((i:Int)+1)=((i+1:Nat):Int):=i64_in' (by omega) (by omega) (by omega)
    have hM:=r8_May p q g h xa hxa hp
    rw[hxm] at hM
    have hE:=r_Exp xa xn p hxa hxn hp
    rw[gMay_mayN hxm] at hE
    have hrl:xa ^ xn%p<p:=Nat.mod_lt _ (by omega)
    have hMu:=r4_Mul P1 (xa ^ xn%p) p (Nat.lt_trans hpl hp) (Nat.lt_trans hrl hp) hp
    rw[mayN_lt h1 hpl hrl,← hpr] at hMu
    clear hpr
    generalize xa ^ xn%p=R at *
    simp only[rE,okV,okE,if_true,if_pos] at hE hMu
    repeat (first|refine Ta ?_|(refine Tm ?_;intro _)|refine Tc ?_|exact Tz)
    refine WC.dT rfl (by omega) ?_
    repeat (first|refine Ta ?_|(refine Tm ?_;intro _)|refine Tc ?_|exact Tz)
    refine WC.adraw 7 (k:=?_)
    repeat (first|refine Da ?_|refine DQ.acall (hc:=hM) (k:=?_)|refine DQ.does (fun s _=>does_indexSlice (o':=oA+i*4) rfl rfl hlt rfl) Dp.const ?_|refine DQ.does (fun s _=>a_loadF (vs:=numC xa) (hs:=hsA) (hle:=Nat.le_add_right _ _) (hc:=hcA)) Dp.const ?_|refine Dc ?_)
    refine DQ.anil (k:=?_)
    intro sx _
    repeat (first|refine Ta ?_|(refine Tm ?_;intro _)|refine Tc ?_|exact Tz)
    refine WC.adrawF [13] 15 (k:=?_)
    repeat (first|refine Da ?_|refine DQ.acall (hc:=hE) (k:=?_)|refine DQ.does (fun s _=>does_indexSlice (o':=oA+i*4) rfl rfl hlt rfl) Dp.const ?_|refine DQ.does (fun s _=>a_loadF (vs:=numC xa) (hs:=hsA) (hle:=Nat.le_add_right _ _) (hc:=hcA)) Dp.const ?_|refine DQ.does (fun s _=>does_indexSlice (o':=oN+i*4) rfl rfl hlt rfl) Dp.const ?_|refine DQ.does (fun s _=>a_loadF (vs:=numC xn) (hs:=hsN) (hle:=Nat.le_add_right _ _) (hc:=hcN)) Dp.const ?_|refine Df ?_)
    refine DQ.anil (k:=?_)
    intro sx _
    repeat (first|refine Ta ?_|(refine Tm ?_;intro _)|refine WO.acall (hc:=hMu) (k:=?_)|refine WO.does (does_add rfl rfl hadd2) ?_|refine Tc ?_|exact Tz)
    subst hP2
    exact WX.metI (i+1) (hs:=⟨by show i+1≤xs.length;omega,by show xs.length - (i+1)<xs.length - i;omega⟩)
  · have hi2:i=xs.length:=by omega
    subst hi2
    rw[List.take_length]
    generalize prodN p xs=P at *
    repeat (first|refine Ta ?_|(refine Tm ?_;intro _)|refine Tc ?_|exact Tz)
    refine WC.dF rfl (by omega) ?_
    repeat (first|refine Ta ?_|(refine Tm ?_;intro _)|refine Tc ?_|exact Tz)
end
end Sx
end Go.Proofs.YtiiacjladnljhaaGreatDoor
namespace Go.Proofs.YtiiacjladnljhaaGreatDoor
open Go Go.RowKit Go.BigFrame
namespace Sx
attribute [local irreducible] wd DQ DQS WO WC WX
abbrev intC (k:Nat):List Value:=[.int .i64 (k:Int)]
theorem ints_get {l:List Nat} {i x o:Nat} (h:l[i]?=some x):(l.flatMap intC)[o+i*1 - o]?=some (.int .i64 (x:Int)):=by
  rw[Nat.add_sub_cancel_left,Nat.mul_one]
  have e:l.flatMap intC=l.map (fun k:Nat=>Value.int .i64 (k:Int)):=by
    induction l generalizing i with
    | nil=>rfl
    | cons a r ih =>
      rw[List.flatMap_cons,List.map_cons]
      have:r.flatMap intC=r.map (fun k:Nat=>Value.int .i64 (k:Int)):=by
        clear ih h
        induction r with
        | nil=>rfl
        | cons a r ih=>rw[List.flatMap_cons,List.map_cons,ih];rfl
      rw[this];rfl
  rw[e,List.getElem?_map,h];rfl
theorem c_IndexI (l:List Nat) (pt:Option Addr) (c x:Nat) (hne:x ∉ l) (hn:l.length≤1000) :
    Fn Tryz.prog 180 [.slice pt l.length c,.int .i64 (x:Int)] (RdF intC (.slice pt l.length c) l) (Is (.int .i64 (-1))):=by
  refine Fn.enter Tryz.func180 rfl rfl rfl ?_
  intro w hw
  repeat (first|refine Ta ?_|(refine Tm ?_;intro _)|refine Tc ?_|exact Tz)
  refine WC.loopI (σ:=Nat) (fun i=>i≤l.length) (fun i=>[(0,.slice pt l.length c),(1,.int .i64 (x:Int)),(7,.int .i64 (l.length:Int)),(8,.int .i64 (i:Int))]) (fun i=>[]) (fun i=>l.length - i) 0 (fun i hi=>?_) (Nat.zero_le _)
  try dsimp only at hi ⊢
  by_cases hlt:i<l.length
  · obtain⟨y,hy⟩ : ∃ y,l[i]?=some y:=⟨_,List.getElem?_eq_getElem hlt⟩
    have hym:=List.mem_of_getElem? hy
    have hxy:(x:Int)≠(y:Int):=fun e=>hne ((Int.ofNat_inj.1 e) ▸ hym)
    obtain⟨b,o,rfl,_,hs⟩:=id hw |>.get hy
    have hadd2:IntKind.i64.wrap ((i:Int)+1)=((i+1:Nat):Int):=i64_in' (by omega) (by omega) (by omega)
    have hcx:=ints_get (o:=o) hy
    repeat (first|refine Ta ?_|(refine Tm ?_;intro _)|refine Tc ?_|exact Tz)
    refine WC.dT rfl (by omega) ?_
    repeat (first|refine WO.does (does_indexSlice (o':=o+i*1) rfl rfl hlt rfl) ?_|refine WO.does (a_loadF1 (hs:=hs) (hle:=Nat.le_add_right _ _) (hc:=hcx)) ?_|refine WO.does (does_eqlN rfl rfl hxy) ?_|refine WO.does (does_add rfl rfl hadd2) ?_|refine Ta ?_|(refine Tm ?_;intro _)|refine Tc ?_|exact Tz)
    exact WX.metI (i+1) (hs:=⟨by show i+1≤l.length;omega,by show l.length - (i+1)<l.length - i;omega⟩)
  · have hi2:i=l.length:=by omega
    subst hi2
    repeat (first|refine Ta ?_|(refine Tm ?_;intro _)|refine Tc ?_|exact Tz)
    refine WC.dF rfl (by omega) ?_
    repeat (first|refine Ta ?_|(refine Tm ?_;intro _)|refine Tc ?_|exact Tz)
theorem c_ContI (l:List Nat) (pt:Option Addr) (c x:Nat) (hne:x ∉ l) (hn:l.length≤1000) :
    Fn Tryz.prog 102 [.slice pt l.length c,.int .i64 (x:Int)] (RdF intC (.slice pt l.length c) l) (Is (.bool false)):=by
  have hI:=c_IndexI l pt c x hne hn
  refine Fn.enter Tryz.func102 rfl rfl rfl ?_
  intro w hw
  repeat (first|refine Ta ?_|(refine Tm ?_;intro _)|refine WO.acallR (hc:=hI) (hR:=fun w1 hm=>hw.mod hm.mod) (k:=?_)|refine WO.does (does_geqN rfl rfl (by decide)) ?_|refine Tc ?_|exact Tz)
end Sx
end Go.Proofs.YtiiacjladnljhaaGreatDoor
namespace Go.Proofs.YtiiacjladnljhaaGreatDoor
open Go Go.RowKit Go.BigFrame
namespace Sx
attribute [local irreducible] wd DQ DQS WO WC WX
def pwL {p:Nat}:(l:List (Nat × Nat))→(∀ x∈l,x.1<B256∧x.2<B256∧gMay p x.1=true)→List (PwT p)
  | [],_=>[]
  | x::r,h=>⟨x,h x (List.mem_cons_self ..)⟩::pwL r (fun y hy=>h y (List.mem_cons_of_mem _ hy))
theorem pwL_map {p:Nat}:∀ (l:List (Nat × Nat)) (h:∀ x∈l,x.1<B256∧x.2<B256∧gMay p x.1=true),(pwL l h).map (fun x=>x.1)=l
  | [],_=>rfl
  | x::r,h=>by rw[pwL,List.map_cons,pwL_map r]
def prD (p:Nat) (zs ws:List Nat):Nat:=(zs.zip ws).foldl (fun r x=>r*(x.1 ^ x.2%p)%p) 1
theorem prodN_pwL {p:Nat} (zs ws:List Nat) (h):prodN p (pwL (zs.zip ws) h)=prD p zs ws:=by
  unfold prodN prD
  rw[← List.foldl_map (f:=fun x:PwT p=>x.1) (g:=fun r x=>r*(x.1 ^ x.2%p)%p),pwL_map]
theorem pw_len {p:Nat} (l:List (Nat × Nat)) (h):(pwL (p:=p) l h).length=l.length:=by
  have:=congrArg List.length (pwL_map (p:=p) l h)
  rwa [List.length_map] at this
structure ZsOk (p:Nat) (zs:List Nat):Prop where
  lt:∀ z∈zs,z<B256
  may:∀ z∈zs,gMay p z=true
theorem ZsOk.zip {p:Nat} {zs ws:List Nat} (h:ZsOk p zs) (hw:∀ v∈ws,v<B256):∀ x∈zs.zip ws,x.1<B256∧x.2<B256∧gMay p x.1=true:=fun x hx=>by
  obtain⟨a,b⟩:=x
  have:=List.of_mem_zip hx
  exact⟨h.lt _ this.1,hw _ this.2,h.may _ this.1⟩
theorem wts_lt {q:Nat} {l:List Nat} {x:Nat} (h1:1<q):∀ v∈wts q l x,v<q:=fun v hv=>by
  obtain⟨i,_,rfl⟩:=List.mem_map.1 hv
  exact wtN_lt h1
theorem wts_len {q:Nat} {l:List Nat} {x:Nat}:(wts q l x).length=l.length:=by simp[wts]
section
variable (p q g h:Nat)
theorem c_ProductR (hp:p<B256) (h1:1<p) (zs ws:List Nat) (hz:ZsOk p zs) (hw:∀ v∈ws,v<B256) (hl:ws.length=zs.length) (hne:zs≠[]) (pa pn:Option Addr) (cA cN:Nat) (hn:zs.length≤100) :
    Fn Tryz.prog 108 [grpV p q g h,.slice pa zs.length cA,.slice pn zs.length cN]
      (fun w=>RdF numC (.slice pa zs.length cA) zs w∧RdF numC (.slice pn zs.length cN) ws w) (Is (.tuple #[numV (prD p zs ws),.int .i64 0])):=by
  intro w ⟨hA,hN⟩
  have hwne:ws≠[]:=fun e=>hne (List.length_eq_zero_iff.1 (by rw[← hl,e];rfl))
  obtain⟨a0,ha0⟩ : ∃ y,zs[0]?=some y:=⟨_,List.getElem?_eq_getElem (List.length_pos_iff.2 hne)⟩
  obtain⟨b0,hb0⟩ : ∃ y,ws[0]?=some y:=⟨_,List.getElem?_eq_getElem (List.length_pos_iff.2 hwne)⟩
  obtain⟨bA,oA,e1,_,hsA⟩:=hA.get ha0
  obtain⟨bN,oN,e2,_,hsN⟩:=hN.get hb0
  subst e1 e2
  have hxl:(pwL (p:=p) (zs.zip ws) (hz.zip hw)).length=zs.length:=by rw[pw_len,List.length_zip];omega
  have hP:=c_Product p q g h hp h1 (pwL (zs.zip ws) (hz.zip hw)) bA oA bN oN cA cN (by omega)
  rw[prodN_pwL,hxl] at hP
  have hm:=pwL_map (p:=p) (zs.zip ws) (hz.zip hw)
  have f1:(pwL (p:=p) (zs.zip ws) (hz.zip hw)).map (fun x=>x.1.1)=zs:=by
    have:=congrArg (List.map Prod.fst) hm
    rw[List.map_map,List.map_fst_zip (by omega)] at this
    exact this
  have f2:(pwL (p:=p) (zs.zip ws) (hz.zip hw)).map (fun x=>x.1.2)=ws:=by
    have:=congrArg (List.map Prod.snd) hm
    rw[List.map_map,List.map_snd_zip (by omega)] at this
    exact this
  refine hP w ⟨RdF.lt (k:=3) (fun _=>rfl) hA hne,RdF.lt (k:=3) (fun _=>rfl) hN hwne,fun k x hx=>?_,fun k x hx=>?_⟩
  · have:zs[k]?=some x.1.1:=by
      have e:=congrArg (fun l=>l[k]?) f1
      simp only[List.getElem?_map,hx] at e
      exact e.symm
    have hc:=cut_flatP (f:=numC) (k:=4) (fun _=>rfl) this
    exact hsA.sub hc
  · have:ws[k]?=some x.1.2:=by
      have e:=congrArg (fun l=>l[k]?) f2
      simp only[List.getElem?_map,hx] at e
      exact e.symm
    have hc:=cut_flatP (f:=numC) (k:=4) (fun _=>rfl) this
    exact hsN.sub hc
theorem r8_ProductR (hp:p<B256) (h1:1<p) (zs ws:List Nat) (hz:ZsOk p zs) (hw:∀ v∈ws,v<B256) (hl:ws.length=zs.length) (pa pn:Option Addr) (cA cN:Nat) (hn:zs.length≤100) :
    Fn Tryz.prog 114 [grpV p q g h,.slice pa zs.length cA,.slice pn zs.length cN]
      (fun w=>RdF numC (.slice pa zs.length cA) zs w∧RdF numC (.slice pn zs.length cN) ws w) (Is (.tuple #[numV (prD p zs ws),.int .i64 0])):=by
  have hxl:(pwL (p:=p) (zs.zip ws) (hz.zip hw)).length=zs.length:=by rw[pw_len,List.length_zip];omega
  have hP:=r8_Product p q g h hp h1 (pwL (zs.zip ws) (hz.zip hw)) pa pn cA cN (by omega)
  have hm:=pwL_map (p:=p) (zs.zip ws) (hz.zip hw)
  have f1:(pwL (p:=p) (zs.zip ws) (hz.zip hw)).map (fun x=>x.1.1)=zs:=by
    have:=congrArg (List.map Prod.fst) hm
    rw[List.map_map,List.map_fst_zip (by omega)] at this
    exact this
  have f2:(pwL (p:=p) (zs.zip ws) (hz.zip hw)).map (fun x=>x.1.2)=ws:=by
    have:=congrArg (List.map Prod.snd) hm
    rw[List.map_map,List.map_snd_zip (by omega)] at this
    exact this
  rw[prodN_pwL,hxl,f1,f2] at hP
  exact hP
set_option maxHeartbeats 2000000 in
theorem c_RaiseP (ks zs:List Nat) (pa pz:Option Addr) (cA cZ i a z gA gG gP:Nat) (ha:ks[i]?=some a) (hz:zs[i]?=some z) (hnd:ks.Nodup) (ha7:a<7) (hcap:ks.length≤cA) (hn:ks.length≤7) (hm:gMay p z=true) (hzb:z<B256) (haq:a+1<q) (hq:q<B256) (hp:p<B256) :
    Fn Tryz.prog 101 ([.int .i64 (i:Int)]++[pt gA,pt gG,pt gP])
      (fun w=>Seg w gA 0 [.slice pa ks.length cA]∧Seg w gG 0 (grpC p q g h)∧Seg w gP 0 [.slice pz zs.length cZ]∧RdF intC (.slice pa ks.length cA) ks w∧RdF numC (.slice pz zs.length cZ) zs w) (Is (.tuple #[numV (a+1),.int .i64 0])):=by
  have hia:=(List.getElem?_eq_some_iff.1 ha).1
  have hiz:=(List.getElem?_eq_some_iff.1 hz).1
  have hxn:a ∉ ks.take i:=fun hm=>by
    obtain⟨j,hj⟩:=List.getElem?_of_mem hm
    have hji:j<i:=by
      have:j<(ks.take i).length:=by
        rcases Nat.lt_or_ge j (ks.take i).length with h|h
        · exact h
        · rw[List.getElem?_eq_none h] at hj;cases hj
      rw[List.length_take] at this;omega
    rw[List.getElem?_take,if_pos hji] at hj
    obtain⟨k1,e1⟩:=List.getElem?_eq_some_iff.1 hj
    obtain⟨k2,e2⟩:=List.getElem?_eq_some_iff.1 ha
    exact List.pairwise_iff_getElem.1 hnd j i k1 k2 hji (e1.trans e2.symm)
  have hlt2:(ks.take i).length=i:=by rw[List.length_take];omega
  have hC:=fun c'=>c_ContI (ks.take i) pa c' a hxn (by omega)
  rw[hlt2] at hC
  have hE:=c_gExp p q g h z 0 hzb (by decide) hp
  rw[hm] at hE
  simp only[rE,okV,okE,if_true] at hE
  have h1:=c_nodes1 a (by omega)
  have h2:=c_ScOf p q g h (a+1) (by omega) hq
  rw[ofZ_nat q (a+1) (by omega),Nat.mod_eq_of_lt haq] at h2
  have hN:=c_nodes
  generalize z ^ 0%p=Z0 at *
  refine Fn.enter Tryz.func101 rfl rfl rfl ?_
  intro w hw
  obtain⟨wA,wG,wP,wL,wZ⟩:=hw
  obtain⟨bA,oA,e,_,hsA⟩:=id wL |>.get ha
  subst e
  obtain⟨bZ,oZ,e,_,hsZ⟩:=id wZ |>.get hz
  subst e
  have hca:=ints_get (o:=oA) ha
  have hcz:cut (zs.flatMap numC) (oZ+i*4 - oZ) 4=numC z:=by rw[Nat.add_sub_cancel_left];exact cut_flatP (f:=numC) (k:=4) (fun _=>rfl) hz
  repeat (first|refine Ta ?_|(refine Tm ?_;intro _)|refine Tc ?_|exact Tz)
  refine WC.adraw 22 (k:=?_)
  iterate 22 (first|refine DQ.does (fun s _=>a_loadF1 (hs:=wA) (hle:=Nat.zero_le _)) Dp.const ?_|refine DQ.does (fun s _=>does_indexSlice (o':=oA+i*1) rfl rfl hia rfl) Dp.const ?_|refine DQ.does (fun s _=>a_loadF1 (hs:=hsA) (hle:=Nat.le_add_right _ _) (hc:=hca)) Dp.const ?_|refine DQ.does (fun s _=>does_lssN rfl rfl (by omega)) Dp.const ?_|refine DQ.does (fun s _=>does_geqN rfl rfl (by omega)) Dp.const ?_|refine DQ.does (fun s _=>does_sliceTo (h:=i) rfl rfl (by omega)) Dp.const ?_|refine DQ.acallM (hc:=hC cA) (hR:=fun w1 hm=>(wL.mod hm.mod).take (by omega)) (k:=?_)|refine Da ?_|refine Dc ?_)
  refine DQ.anil (k:=?_)
  intro sx _
  repeat (first|refine Ta ?_|(refine Tm ?_;intro _)|refine Tc ?_|exact Tz)
  refine WC.adrawF [9] 11 (k:=?_)
  repeat (first|refine Da ?_|refine DQ.does (fun s _=>a_loadF (hs:=wG) (hle:=Nat.le_refl _) (vs:=grpC p q g h)) Dp.const ?_|refine DQ.does (fun s _=>a_loadF1 (hs:=wP) (hle:=Nat.zero_le _)) Dp.const ?_|refine DQ.does (fun s _=>does_indexSlice (o':=oZ+i*4) rfl rfl hiz rfl) Dp.const ?_|refine DQ.does (fun s _=>a_loadF (vs:=numC z) (hs:=hsZ) (hle:=Nat.le_add_right _ _) (hc:=hcz)) Dp.const ?_|refine DQ.acall (hc:=hE) (k:=?_)|refine Df ?_)
  refine DQ.anil (k:=?_)
  intro sx _
  repeat (first|refine Ta ?_|(refine Tm ?_;intro _)|refine Tc ?_|exact Tz)
  refine WC.adrawF [9] 10 (k:=?_)
  repeat (first|refine Da ?_|refine DQ.does (fun s _=>a_loadF (hs:=wG) (hle:=Nat.le_refl _) (vs:=grpC p q g h)) Dp.const ?_|refine DQ.does (fun s _=>a_loadF1 (hs:=wA) (hle:=Nat.zero_le _)) Dp.const ?_|refine DQ.does (fun s _=>does_indexSlice (o':=oA+i*1) rfl rfl hia rfl) Dp.const ?_|refine DQ.does (fun s _=>a_loadF1 (hs:=hsA) (hle:=Nat.le_add_right _ _) (hc:=hca)) Dp.const ?_|refine DQ.acall (hc:=hN) (k:=?_)|refine DQ.acallV (hc:=h1) (k:=?_)|refine DQ.acall (hc:=h2) (k:=?_)|refine Df ?_)
  refine DQ.anil (k:=?_)
  intro sx _
  repeat (first|refine Ta ?_|(refine Tm ?_;intro _)|refine Tc ?_|exact Tz)
  done
end
end Sx
end Go.Proofs.YtiiacjladnljhaaGreatDoor
