/- Part 44 of the proof: BkH, BkI -/
import Derived.Test.YtiiacjladnljhaaGreatDoorM43
import Derived.Test.YtiiacjladnljhaaGreatDoorM34
set_option linter.unusedSimpArgs false
set_option linter.unusedVariables false
namespace Go.Proofs.YtiiacjladnljhaaGreatDoor
open Go Go.RowKit Go.BigFrame
namespace Sx
attribute [local irreducible] wd DQ DQS WO WC WX
theorem k_isNum (m:Nat) (hm:m<1000):Fn Tryz.prog 140 [numV m,.int .i64 (m:Int)] Tr (Is (.bool true)):=by
  have hcv:IntKind.u64.wrap (m:Int)=(m:Int):=u64_in (by omega) (by omega)
  have hn:=num_small (m:=m) (by omega)
  have hb:m<B256:=B256_of (by omega)
  refine Fn.enter Tryz.func140 rfl rfl rfl ?_
  intro w hw
  repeat (first|refine WO.does (does_buildA (cs:=numC m) rfl rfl (by rw[hn];kernel_rfl)) ?_|refine WO.does (a_eqNumV (a:=m) (b:=m) rfl rfl hb hb (decide_eq_true rfl)) ?_|refine Ta ?_|(refine Tm ?_;intro _)|refine WO.does (does_conv rfl hcv) ?_|refine Tc ?_|exact Tz)
theorem k_isKey (m:Nat) (hm:m<1000):Fn Tryz.prog 143 [(.agg (mkC m).toArray),.int .i64 (m:Int)] Tr (Is (.bool true)):=by
  have hcv:IntKind.u64.wrap (m:Int)=(m:Int):=u64_in (by omega) (by omega)
  have hn:=num_small (m:=m) (by omega)
  have hb:m<B256:=B256_of (by omega)
  refine Fn.enter Tryz.func143 rfl rfl rfl ?_
  intro w hw
  repeat (first|refine WO.does (does_buildA (cs:=numC m) rfl rfl (by rw[hn];kernel_rfl)) ?_|refine WO.does (a_eqNumV (a:=m) (b:=m) rfl rfl hb hb (decide_eq_true rfl)) ?_|refine Ta ?_|(refine Tm ?_;intro _)|refine WO.does (does_conv rfl hcv) ?_|refine Tc ?_|exact Tz)
set_option maxHeartbeats 2000000 in
theorem k_lookNum (m:Nat) (b c d:Value) (bk g cc n:Nat) (pl:Nat→Option Addr) (nl cl bl dl ml:Nat→Nat) (r:List Value) (hn:n<1000) (h1:∀ k,k<n→nl k≤100∧ml k<1000) :
    Fn Tryz.prog 77 [pt bk] (fun w=>Seg w bk 0 (bkC m (.slice (some ⟨g,0,none⟩) n cc) b c d)∧Seg w g 0 ((List.range n).flatMap (fun k=>[.slice (pl k) (nl k) (cl k),.slice (some ⟨bl k,0,none⟩) (nl k+40) (dl k),.int .i64 (ml k:Int)])++r)∧∀ k,k<n→Seg w (bl k) 0 (mkz (nl k+40) (numC (ml k)))∧(nl k=0∨∃ b,pl k=some ⟨b,0,none⟩∧Seg w b 0 (mkz (nl k) (numC (ml k))))) (Is (.bool true)):=by
  refine Fn.enter Tryz.func77 rfl rfl rfl ?_
  intro w hw
  obtain⟨hwB,hwR,hwL⟩:=hw
  repeat (first|refine Ta ?_|(refine Tm ?_;intro _)|refine Tc ?_|exact Tz)
  refine WC.loopI (σ:=Nat) (fun i=>i≤n) (fun i=>[(0,pt bk),(2,.bool false),(3,.int .i64 (i:Int))]) (fun i=>[]) (fun i=>n - i) 0 (fun i hi=>?_) (Nat.zero_le _)
  try dsimp only at hi ⊢
  by_cases hlt:i<n
  · have hrow:cut ((List.range n).flatMap (fun k=>[.slice (pl k) (nl k) (cl k),.slice (some ⟨bl k,0,none⟩) (nl k+40) (dl k),.int .i64 (ml k:Int)])++r) (0+i*3 - 0) 3=[.slice (pl i) (nl i) (cl i),.slice (some ⟨bl i,0,none⟩) (nl i+40) (dl i),.int .i64 (ml i:Int)]:=by rw[Nat.zero_add,Nat.sub_zero];exact cut_st0 (Y:=(fun k=>[.slice (pl k) (nl k) (cl k),.slice (some ⟨bl k,0,none⟩) (nl k+40) (dl k),.int .i64 (ml k:Int)])) hlt (fun k=>rfl)
    obtain⟨hsL,hsO⟩:=hwL i hlt
    obtain⟨hnl,hml⟩:=h1 i hlt
    have hadd2:IntKind.i64.wrap ((i:Int)+1)=((i+1:Nat):Int):=i64_in' (by omega) (by omega) (by omega)
    generalize pl i=p0 at *
    generalize nl i=n0 at *
    generalize cl i=c0 at *
    generalize bl i=b0 at *
    generalize dl i=d0 at *
    generalize ml i=m0 at *
    generalize (List.range n).flatMap (fun k=>[.slice (pl k) (nl k) (cl k),.slice (some ⟨bl k,0,none⟩) (nl k+40) (dl k),.int .i64 (ml k:Int)])++r=rows at *
    have hadd4:IntKind.i64.wrap ((n0:Int)+40)=((n0+40:Nat):Int):=i64_in' (by omega) (by omega) (by omega)
    have his:=k_isNum m0 hml
    clear hwL h1
    repeat (first|refine Ta ?_|(refine Tm ?_;intro _)|refine WO.does (a_loadF (vs:=[.slice (some ⟨g,0,none⟩) n cc]) (hs:=hwB) (hle:=Nat.zero_le _) (hc:=rfl)) ?_|refine Tc ?_|exact Tz)
    refine WC.dT rfl (by omega) ?_
    repeat (first|refine Ta ?_|(refine Tm ?_;intro _)|refine WO.does (a_loadF (vs:=[.slice (some ⟨g,0,none⟩) n cc]) (hs:=hwB) (hle:=Nat.zero_le _) (hc:=rfl)) ?_|refine WO.does (does_indexSlice (o':=0+i*3) rfl rfl hlt rfl) ?_|refine WO.does (a_loadF (vs:=[.slice p0 n0 c0,.slice (some ⟨b0,0,none⟩) (n0+40) d0,.int .i64 (m0:Int)]) (hs:=hwR) (hle:=Nat.zero_le _) (hc:=hrow)) ?_|refine WO.does (does_add rfl rfl hadd4) ?_|refine WO.does (does_neqN rfl rfl rfl) ?_|refine Tc ?_|exact Tz)
    rename_i gH
    refine WC.loopI (σ:=Nat) (fun k=>k≤n0+40) (fun k=>[(0,pt bk),(2,.bool false),(3,.int .i64 (i:Int)),(4,pt gH),(5,.int .i64 (k:Int))]) (fun k=>[⟨gH,124,[.slice p0 n0 c0,.slice (some ⟨b0,0,none⟩) (n0+40) d0,.int .i64 (m0:Int)]⟩]) (fun k=>n0+40 - k) 0 (fun k hk=>?_) (Nat.zero_le _)
    try dsimp only at hk ⊢
    by_cases hkn:k<n0+40
    · have hadd3:IntKind.i64.wrap ((k:Int)+1)=((k+1:Nat):Int):=i64_in' (by omega) (by omega) (by omega)
      have hcL:cut (mkz (n0+40) (numC m0)) (0+k*4 - 0) 4=numC m0:=by rw[Nat.zero_add,Nat.sub_zero];exact cut_mkz rfl hkn
      repeat (first|refine Ta ?_|(refine Tm ?_;intro _)|refine Tc ?_|exact Tz)
      refine WC.dT rfl (by omega) ?_
      repeat (first|refine Ta ?_|(refine Tm ?_;intro _)|refine Tc ?_|exact Tz)
      by_cases hko:k<n0
      · rcases hsO with h0|⟨b,rfl,hsO⟩
        · omega
        have hcO:cut (mkz n0 (numC m0)) (0+k*4 - 0) 4=numC m0:=by rw[Nat.zero_add,Nat.sub_zero];exact cut_mkz rfl hko
        refine WC.adraw 27 (k:=?_)
        iterate 27 (first|refine Da ?_|refine DQ.acall (hc:=his) (k:=?_)|refine DQ.does (fun s _=>does_indexSlice (o':=0+k*4) rfl rfl hkn rfl) Dp.const ?_|refine DQ.does (fun s _=>does_indexSlice (o':=0+k*4) rfl rfl hko rfl) Dp.const ?_|refine DQ.does (fun s _=>a_loadF (vs:=numC m0) (hs:=hsL) (hle:=Nat.zero_le _) (hc:=hcL)) Dp.const ?_|refine DQ.does (fun s _=>a_loadF (vs:=numC m0) (hs:=hsO) (hle:=Nat.zero_le _) (hc:=hcO)) Dp.const ?_|refine DQ.does (fun s _=>does_lssY rfl rfl (by omega)) Dp.const ?_|refine Dc ?_)
        refine DQ.anil (k:=?_)
        intro sx _
        repeat (first|refine Ta ?_|(refine Tm ?_;intro _)|refine WO.does (does_add rfl rfl hadd3) ?_|refine Tc ?_|exact Tz)
        exact WX.metI (k+1) (hs:=⟨by show k+1≤n0+40;omega,by show n0+40 - (k+1)<n0+40 - k;omega⟩)
      · refine WC.adraw 27 (k:=?_)
        iterate 27 (first|refine Da ?_|refine DQ.acall (hc:=his) (k:=?_)|refine DQ.does (fun s _=>does_indexSlice (o':=0+k*4) rfl rfl hkn rfl) Dp.const ?_|refine DQ.does (fun s _=>a_loadF (vs:=numC m0) (hs:=hsL) (hle:=Nat.zero_le _) (hc:=hcL)) Dp.const ?_|refine DQ.does (fun s _=>does_lssN rfl rfl (by omega)) Dp.const ?_|refine Dc ?_)
        refine DQ.anil (k:=?_)
        intro sx _
        repeat (first|refine Ta ?_|(refine Tm ?_;intro _)|refine WO.does (does_add rfl rfl hadd3) ?_|refine Tc ?_|exact Tz)
        exact WX.metI (k+1) (hs:=⟨by show k+1≤n0+40;omega,by show n0+40 - (k+1)<n0+40 - k;omega⟩)
    · have hk2:k=n0+40:=by omega
      subst hk2
      repeat (first|refine Ta ?_|(refine Tm ?_;intro _)|refine Tc ?_|exact Tz)
      refine WC.dF rfl (by omega) ?_
      repeat (first|refine Ta ?_|(refine Tm ?_;intro _)|refine WO.does (does_add rfl rfl hadd2) ?_|refine Tc ?_|exact Tz)
      exact WX.metI (i+1) (hs:=⟨by show i+1≤n;omega,by show n - (i+1)<n - i;omega⟩)
  · have hi2:i=n:=by omega
    subst hi2
    repeat (first|refine Ta ?_|(refine Tm ?_;intro _)|refine WO.does (a_loadF (vs:=[.slice (some ⟨g,0,none⟩) i cc]) (hs:=hwB) (hle:=Nat.zero_le _) (hc:=rfl)) ?_|refine Tc ?_|exact Tz)
    refine WC.dF rfl (by omega) ?_
    repeat (first|refine Ta ?_|(refine Tm ?_;intro _)|refine Tc ?_|exact Tz)
set_option maxHeartbeats 2000000 in
theorem k_lookKey (m:Nat) (a c d:Value) (bk g cc n:Nat) (pl:Nat→Option Addr) (nl cl bl dl ml:Nat→Nat) (r:List Value) (hn:n<1000) (h1:∀ k,k<n→nl k≤100∧ml k<1000) :
    Fn Tryz.prog 80 [pt bk] (fun w=>Seg w bk 0 (bkC m a (.slice (some ⟨g,0,none⟩) n cc) c d)∧Seg w g 0 ((List.range n).flatMap (fun k=>[.slice (pl k) (nl k) (cl k),.slice (some ⟨bl k,0,none⟩) (nl k+40) (dl k),.int .i64 (ml k:Int)])++r)∧∀ k,k<n→Seg w (bl k) 0 (mkz (nl k+40) (mkC (ml k)))∧(nl k=0∨∃ b,pl k=some ⟨b,0,none⟩∧Seg w b 0 (mkz (nl k) (mkC (ml k))))) (Is (.bool true)):=by
  refine Fn.enter Tryz.func80 rfl rfl rfl ?_
  intro w hw
  obtain⟨hwB,hwR,hwL⟩:=hw
  repeat (first|refine Ta ?_|(refine Tm ?_;intro _)|refine Tc ?_|exact Tz)
  refine WC.loopI (σ:=Nat) (fun i=>i≤n) (fun i=>[(0,pt bk),(2,.bool false),(3,.int .i64 (i:Int))]) (fun i=>[]) (fun i=>n - i) 0 (fun i hi=>?_) (Nat.zero_le _)
  try dsimp only at hi ⊢
  by_cases hlt:i<n
  · have hrow:cut ((List.range n).flatMap (fun k=>[.slice (pl k) (nl k) (cl k),.slice (some ⟨bl k,0,none⟩) (nl k+40) (dl k),.int .i64 (ml k:Int)])++r) (0+i*3 - 0) 3=[.slice (pl i) (nl i) (cl i),.slice (some ⟨bl i,0,none⟩) (nl i+40) (dl i),.int .i64 (ml i:Int)]:=by rw[Nat.zero_add,Nat.sub_zero];exact cut_st0 (Y:=(fun k=>[.slice (pl k) (nl k) (cl k),.slice (some ⟨bl k,0,none⟩) (nl k+40) (dl k),.int .i64 (ml k:Int)])) hlt (fun k=>rfl)
    obtain⟨hsL,hsO⟩:=hwL i hlt
    obtain⟨hnl,hml⟩:=h1 i hlt
    have hadd2:IntKind.i64.wrap ((i:Int)+1)=((i+1:Nat):Int):=i64_in' (by omega) (by omega) (by omega)
    generalize pl i=p0 at *
    generalize nl i=n0 at *
    generalize cl i=c0 at *
    generalize bl i=b0 at *
    generalize dl i=d0 at *
    generalize ml i=m0 at *
    generalize (List.range n).flatMap (fun k=>[.slice (pl k) (nl k) (cl k),.slice (some ⟨bl k,0,none⟩) (nl k+40) (dl k),.int .i64 (ml k:Int)])++r=rows at *
    have hadd4:IntKind.i64.wrap ((n0:Int)+40)=((n0+40:Nat):Int):=i64_in' (by omega) (by omega) (by omega)
    have his:=k_isKey m0 hml
    clear hwL h1
    repeat (first|refine Ta ?_|(refine Tm ?_;intro _)|refine WO.does (a_loadF (vs:=[.slice (some ⟨g,0,none⟩) n cc]) (hs:=hwB) (hle:=Nat.zero_le _) (hc:=rfl)) ?_|refine Tc ?_|exact Tz)
    refine WC.dT rfl (by omega) ?_
    repeat (first|refine Ta ?_|(refine Tm ?_;intro _)|refine WO.does (a_loadF (vs:=[.slice (some ⟨g,0,none⟩) n cc]) (hs:=hwB) (hle:=Nat.zero_le _) (hc:=rfl)) ?_|refine WO.does (does_indexSlice (o':=0+i*3) rfl rfl hlt rfl) ?_|refine WO.does (a_loadF (vs:=[.slice p0 n0 c0,.slice (some ⟨b0,0,none⟩) (n0+40) d0,.int .i64 (m0:Int)]) (hs:=hwR) (hle:=Nat.zero_le _) (hc:=hrow)) ?_|refine WO.does (does_add rfl rfl hadd4) ?_|refine WO.does (does_neqN rfl rfl rfl) ?_|refine Tc ?_|exact Tz)
    rename_i gH
    refine WC.loopI (σ:=Nat) (fun k=>k≤n0+40) (fun k=>[(0,pt bk),(2,.bool false),(3,.int .i64 (i:Int)),(4,pt gH),(5,.int .i64 (k:Int))]) (fun k=>[⟨gH,150,[.slice p0 n0 c0,.slice (some ⟨b0,0,none⟩) (n0+40) d0,.int .i64 (m0:Int)]⟩]) (fun k=>n0+40 - k) 0 (fun k hk=>?_) (Nat.zero_le _)
    try dsimp only at hk ⊢
    by_cases hkn:k<n0+40
    · have hadd3:IntKind.i64.wrap ((k:Int)+1)=((k+1:Nat):Int):=i64_in' (by omega) (by omega) (by omega)
      have hcL:cut (mkz (n0+40) (mkC m0)) (0+k*8 - 0) 8=mkC m0:=by rw[Nat.zero_add,Nat.sub_zero];exact cut_mkz rfl hkn
      repeat (first|refine Ta ?_|(refine Tm ?_;intro _)|refine Tc ?_|exact Tz)
      refine WC.dT rfl (by omega) ?_
      repeat (first|refine Ta ?_|(refine Tm ?_;intro _)|refine Tc ?_|exact Tz)
      by_cases hko:k<n0
      · rcases hsO with h0|⟨b,rfl,hsO⟩
        · omega
        have hcO:cut (mkz n0 (mkC m0)) (0+k*8 - 0) 8=mkC m0:=by rw[Nat.zero_add,Nat.sub_zero];exact cut_mkz rfl hko
        refine WC.adraw 27 (k:=?_)
        iterate 27 (first|refine Da ?_|refine DQ.acall (hc:=his) (k:=?_)|refine DQ.does (fun s _=>does_indexSlice (o':=0+k*8) rfl rfl hkn rfl) Dp.const ?_|refine DQ.does (fun s _=>does_indexSlice (o':=0+k*8) rfl rfl hko rfl) Dp.const ?_|refine DQ.does (fun s _=>a_loadF (vs:=mkC m0) (hs:=hsL) (hle:=Nat.zero_le _) (hc:=hcL)) Dp.const ?_|refine DQ.does (fun s _=>a_loadF (vs:=mkC m0) (hs:=hsO) (hle:=Nat.zero_le _) (hc:=hcO)) Dp.const ?_|refine DQ.does (fun s _=>does_lssY rfl rfl (by omega)) Dp.const ?_|refine Dc ?_)
        refine DQ.anil (k:=?_)
        intro sx _
        repeat (first|refine Ta ?_|(refine Tm ?_;intro _)|refine WO.does (does_add rfl rfl hadd3) ?_|refine Tc ?_|exact Tz)
        exact WX.metI (k+1) (hs:=⟨by show k+1≤n0+40;omega,by show n0+40 - (k+1)<n0+40 - k;omega⟩)
      · refine WC.adraw 27 (k:=?_)
        iterate 27 (first|refine Da ?_|refine DQ.acall (hc:=his) (k:=?_)|refine DQ.does (fun s _=>does_indexSlice (o':=0+k*8) rfl rfl hkn rfl) Dp.const ?_|refine DQ.does (fun s _=>a_loadF (vs:=mkC m0) (hs:=hsL) (hle:=Nat.zero_le _) (hc:=hcL)) Dp.const ?_|refine DQ.does (fun s _=>does_lssN rfl rfl (by omega)) Dp.const ?_|refine Dc ?_)
        refine DQ.anil (k:=?_)
        intro sx _
        repeat (first|refine Ta ?_|(refine Tm ?_;intro _)|refine WO.does (does_add rfl rfl hadd3) ?_|refine Tc ?_|exact Tz)
        exact WX.metI (k+1) (hs:=⟨by show k+1≤n0+40;omega,by show n0+40 - (k+1)<n0+40 - k;omega⟩)
    · have hk2:k=n0+40:=by omega
      subst hk2
      repeat (first|refine Ta ?_|(refine Tm ?_;intro _)|refine Tc ?_|exact Tz)
      refine WC.dF rfl (by omega) ?_
      repeat (first|refine Ta ?_|(refine Tm ?_;intro _)|refine WO.does (does_add rfl rfl hadd2) ?_|refine Tc ?_|exact Tz)
      exact WX.metI (i+1) (hs:=⟨by show i+1≤n;omega,by show n - (i+1)<n - i;omega⟩)
  · have hi2:i=n:=by omega
    subst hi2
    repeat (first|refine Ta ?_|(refine Tm ?_;intro _)|refine WO.does (a_loadF (vs:=[.slice (some ⟨g,0,none⟩) i cc]) (hs:=hwB) (hle:=Nat.zero_le _) (hc:=rfl)) ?_|refine Tc ?_|exact Tz)
    refine WC.dF rfl (by omega) ?_
    repeat (first|refine Ta ?_|(refine Tm ?_;intro _)|refine Tc ?_|exact Tz)
end Sx
end Go.Proofs.YtiiacjladnljhaaGreatDoor
namespace Go.Proofs.YtiiacjladnljhaaGreatDoor
open Go Go.RowKit Go.BigFrame
namespace Sx
attribute [local irreducible] wd DQ DQS WO WC WX
theorem Seg.front {w:World} {b o:Nat} {A B:List Value} (h:Seg w b o (A++B)):Seg w b o A:=fun i v hv=>h i v (by
  rw[List.getElem?_append_left (by
    rcases Nat.lt_or_ge i A.length with h1|h1
    · exact h1
    · rw[List.getElem?_eq_none h1] at hv;cases hv)]
  exact hv)
theorem Mr.seg {w0 w:World} {gs:List Nat} {L:List Ent} {e:Ent} (hm:Mr w0 gs L w) (h:e∈L):Seg w e.g 0 e.cs:=by
  have:=(hm.ok _ h).seg 0
  simpa using this
theorem fill_gs {T:Nat} {M:Nat→List Value} {E:Nat→HE}:(fun k=>((E k).fill M).L T)=(fun k=>gsL T (M (E k).m) (E k) .A 0):=by
  funext k
  generalize E k=e
  obtain⟨b,n,c,cs,m⟩:=e
  cases b<;>rfl
section
open Classical
theorem permN {a b c d:Ent} {X Z:List Ent}:(a::b::c::d::(X++Z)).Perm ((a::b::X)++(c::d::Z)):=by
  refine List.perm_iff_count.2 fun e=>?_
  simp only[List.count_cons,List.count_append,List.cons_append]
  omega
theorem permK {a b c d:Ent} {X Y Z:List Ent}:(a::b::c::d::(X++(Y++Z))).Perm ((a::c::Y)++(b::d::(X++Z))):=by
  refine List.perm_iff_count.2 fun e=>?_
  simp only[List.count_cons,List.count_append,List.cons_append]
  omega
theorem permP {a b c d:Ent} {X Y Z:List Ent}:(a::b::c::d::(X++(Y++Z))).Perm ((a::d::Z)++(b::c::(X++Y))):=by
  refine List.perm_iff_count.2 fun e=>?_
  simp only[List.count_cons,List.count_append,List.cons_append]
  omega
end
def gsB:GS→Nat
  | .A=>0
  | .B g _ _ _=>g
def gsC:GS→Nat
  | .A=>0
  | .B _ c _ _=>c
theorem gs_grown {M:List Value} {e:HE} {s:GS} {z:Nat} (h:gsOk M e s 40) (he:e.ok z):∃ g c r cs,s=.B g c r cs:=by
  cases s with
  | A =>
    have h1:e.n+40≤e.c:=h
    have:=he.room
    omega
  | B g c r cs=>exact⟨g,c,r,cs,rfl⟩
theorem heG_eq {M:Nat→List Value} {E:Nat→HE} {st:Nat→GS} {n z:Nat} (hs:∀ k,k<n→gsOk (M (E k).m) (E k) (st k) 40) (hE:∀ k,k<n→(E k).ok z) :
    (List.range n).flatMap (fun k=>heG (E k) (st k))=(List.range n).flatMap (fun k=>[.slice ((E k).b.map fun b=>⟨b,0,none⟩) (E k).n (E k).c,.slice (some ⟨gsB (st k),0,none⟩) ((E k).n+40) (gsC (st k)),.int .i64 ((E k).m:Int)]):=by
  refine flat_congr fun k hk=>?_
  obtain⟨g,c,r,cs,e⟩:=gs_grown (hs k (List.mem_range.1 hk)) (hE k (List.mem_range.1 hk))
  rw[e]
  rfl
theorem grown_seg {T:Nat} {M:Nat→List Value} {E:Nat→HE} {st:Nat→GS} {n z:Nat} {w0 w:World} {gs:List Nat} {L:List Ent} (hm:Mr w0 gs L w) (hL:∀ x∈(List.range n).flatMap (fun k=>gsL T (M (E k).m) (E k) (st k) 40),x∈L)
    (hs:∀ k,k<n→gsOk (M (E k).m) (E k) (st k) 40) (hE:∀ k,k<n→(E k).ok z) :
    ∀ k,k<n→Seg w (gsB (st k)) 0 (mkz ((E k).n+40) (M (E k).m))∧((E k).n=0∨∃ b,((E k).b.map fun b=>(⟨b,0,none⟩ : Addr))=some ⟨b,0,none⟩∧Seg w b 0 (mkz (E k).n (M (E k).m))):=by
  intro k hk
  have hmem:∀ x∈gsL T (M (E k).m) (E k) (st k) 40,x∈L:=fun x hx=>hL x (List.mem_flatMap.2 ⟨k,List.mem_range.2 hk,hx⟩)
  obtain⟨g,c,r,cs,e⟩:=gs_grown (hs k hk) (hE k hk)
  have hok:=hE k hk
  rw[e] at hmem ⊢
  generalize E k=e at *
  obtain⟨b,n,c2,cs2,m⟩:=e
  have h1:=hm.seg (hmem ⟨g,T,mkz (n+40) (M m)++r⟩ (by simp[gsL]))
  refine⟨h1.front,?_⟩
  cases b with
  | none=>exact .inl (hok.nil rfl).1
  | some b =>
    have h2:=hm.seg (hmem ⟨b,T,mkz n (M m)++cs⟩ (by simp[gsL]))
    exact .inr ⟨b,rfl,h2.front⟩
section
variable {P:Program} {w0:World} {gs:List Nat} {n:Nat} {ops:List Oper} {Q:Exit→Act→World→Prop} {K:List (Nat × Value)} {L:List Ent} {rest:List Oper}
variable {d:Nat} {ty:TypeId} {pos:String} {after:Array Edge} {gd:Option (Nat × Bool)}
theorem WO.callK {f:FuncId} [Cal P f] {xs:Array Operand} {ats:Array TypeId} {ar:List Value} {Rq:World→Prop} (hc:FnL P f ar [] Rq (fun v N=>v=.tuple #[]∧N=[]))
    (hR:∀ w,Mr w0 gs L w→Rq w) (k:WO P w0 gs n ops Q ((d,.tuple #[])::K) L rest) (ha:evs K xs.toList=some ar:=by rfl) (hd:Nat.blt d n=true:=by rfl) (hw:wk ops K gd=some true:=by rfl) :
    WO P w0 gs n ops Q K L (⟨some d,.call { callee:=.value (.func f),args:=xs,argTypes:=ats },ty,pos,after,gd⟩::rest) :=
  WO.callsL hc hR (fun v N ⟨e1,e2⟩=>by subst e1 e2;exact k) ha .nil hd hw
theorem WO.callP {f:FuncId} [Cal P f] {xs:Array Operand} {ats:Array TypeId} {ar:List Value} {M R:List Ent} {post:Value→List Ent→Prop} (hp:L.Perm (M++R)) (hc:FnL P f ar M Tr post)
    (k:∀ v N,post v N→WO P w0 gs n ops Q ((d,v)::K) (N++R) rest) (ha:evs K xs.toList=some ar:=by rfl) (hd:Nat.blt d n=true:=by rfl) (hw:wk ops K gd=some true:=by rfl) :
    WO P w0 gs n ops Q K L (⟨some d,.call { callee:=.value (.func f),args:=xs,argTypes:=ats },ty,pos,after,gd⟩::rest) :=
  WO.permL hp (WO.callsL hc (fun _ _=>trivial) k ha Pks.app hd hw)
end
end Sx
end Go.Proofs.YtiiacjladnljhaaGreatDoor
