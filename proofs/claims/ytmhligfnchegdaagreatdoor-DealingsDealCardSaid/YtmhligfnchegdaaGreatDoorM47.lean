/- Part 47 of the proof: BkH -/
import Derived.Test.YtmhligfnchegdaaGreatDoorM46
import Derived.Test.YtmhligfnchegdaaGreatDoorM39
set_option linter.unusedSimpArgs false
set_option linter.unusedVariables false
namespace Go.Proofs.YtmhligfnchegdaaGreatDoor
open Go Go.RowKit Go.BigFrame
namespace Sx
attribute [local irreducible] wd DQ DQS WO WC WX
theorem k_isNum (m:Nat) (hm:m<1000):Fn Tryz.prog 166 [numV m,.int .i64 (m:Int)] Tr (Is (.bool true)):=by
  have hcv:IntKind.u64.wrap (m:Int)=(m:Int):=u64_in (by omega) (by omega)
  have hn:=num_small (m:=m) (by omega)
  have hb:m<B256:=B256_of (by omega)
  refine Fn.enter Tryz.func166 rfl rfl rfl ?_
  intro w hw
  repeat (first|refine WO.does (does_buildA (cs:=numC m) rfl rfl (by rw[hn];kernel_rfl)) ?_|refine WO.does (a_eqNumV (a:=m) (b:=m) rfl rfl hb hb (decide_eq_true rfl)) ?_|refine Ta ?_|(refine Tm ?_;intro _)|refine WO.does (does_conv rfl hcv) ?_|refine Tc ?_|exact Tz)
theorem k_isKey (m:Nat) (hm:m<1000):Fn Tryz.prog 169 [(.agg (mkC m).toArray),.int .i64 (m:Int)] Tr (Is (.bool true)):=by
  have hcv:IntKind.u64.wrap (m:Int)=(m:Int):=u64_in (by omega) (by omega)
  have hn:=num_small (m:=m) (by omega)
  have hb:m<B256:=B256_of (by omega)
  refine Fn.enter Tryz.func169 rfl rfl rfl ?_
  intro w hw
  repeat (first|refine WO.does (does_buildA (cs:=numC m) rfl rfl (by rw[hn];kernel_rfl)) ?_|refine WO.does (a_eqNumV (a:=m) (b:=m) rfl rfl hb hb (decide_eq_true rfl)) ?_|refine Ta ?_|(refine Tm ?_;intro _)|refine WO.does (does_conv rfl hcv) ?_|refine Tc ?_|exact Tz)
theorem k_isProof (m:Nat) (hm:m<1000):Fn Tryz.prog 170 [(.agg (mkC m).toArray),.int .i64 (m:Int)] Tr (Is (.bool true)):=by
  have hcv:IntKind.u64.wrap (m:Int)=(m:Int):=u64_in (by omega) (by omega)
  have hn:=num_small (m:=m) (by omega)
  have hb:m<B256:=B256_of (by omega)
  refine Fn.enter Tryz.func170 rfl rfl rfl ?_
  intro w hw
  repeat (first|refine WO.does (does_buildA (cs:=numC m) rfl rfl (by rw[hn];kernel_rfl)) ?_|refine WO.does (a_eqNumV (a:=m) (b:=m) rfl rfl hb hb (decide_eq_true rfl)) ?_|refine Ta ?_|(refine Tm ?_;intro _)|refine WO.does (does_conv rfl hcv) ?_|refine Tc ?_|exact Tz)
set_option maxHeartbeats 2000000 in
theorem k_lookNum (m:Nat) (b c d:Value) (bk g cc n:Nat) (pl:Nat→Option Addr) (nl cl bl dl ml:Nat→Nat) (r:List Value) (hn:n<1000) (h1:∀ k,k<n→nl k≤100∧ml k<1000) :
    Fn Tryz.prog 91 [pt bk] (fun w=>Seg w bk 0 (bkC m (.slice (some ⟨g,0,none⟩) n cc) b c d)∧Seg w g 0 ((List.range n).flatMap (fun k=>[.slice (pl k) (nl k) (cl k),.slice (some ⟨bl k,0,none⟩) (nl k+40) (dl k),.int .i64 (ml k:Int)])++r)∧∀ k,k<n→Seg w (bl k) 0 (mkz (nl k+40) (numC (ml k)))∧(nl k=0∨∃ b,pl k=some ⟨b,0,none⟩∧Seg w b 0 (mkz (nl k) (numC (ml k))))) (Is (.bool true)):=by
  refine Fn.enter Tryz.func91 rfl rfl rfl ?_
  intro w hw
  obtain⟨hwB,hwR,hwL⟩:=hw
  repeat (first|refine Ta ?_|(refine Tm ?_;intro _)|refine Tc ?_|exact Tz)
  refine WC.loopI (σ:=Nat) (fun i=>i≤n) (fun i=>[(0,pt bk),(2,.bool false),(3,.int .i64 (i:Int))]) (fun i=>[]) (fun i=>n - i) 0 (fun i hi=>?_) (Nat.zero_le _)
  try dsimp only at hi ⊢
  by_cases hlt:i<n
  · have hrow:cut ((List.range n).flatMap (fun k=>[.slice (pl k) (nl k) (cl k),.slice (some ⟨bl k,0,none⟩) (nl k+40) (dl k),.int .i64 (ml k:Int)])++r) (0+i*3 - 0) 3=[.slice (pl i) (nl i) (cl i),.slice (some ⟨bl i,0,none⟩) (nl i+40) (dl i),.int .i64 (ml i:Int)]:=by rw[Nat.zero_add,Nat.sub_zero];exact cut_st0 (Y:=(fun k=>[.slice (pl k) (nl k) (cl k),.slice (some ⟨bl k,0,none⟩) (nl k+40) (dl k),.int .i64 (ml k:Int)])) hlt (fun k=>rfl)
    obtain⟨hsL,hsO⟩:=hwL i hlt
    obtain⟨hnl,hml⟩:=h1 i hlt
    have hadd2:IntKind.i64.wrap ((i:Int)+1)=((i+1:Nat):Int):=i64_in' (by omega) (by omega) (by omega)
    generalize pl i=p0 at *
    generalize nl i=n0 at *
    generalize cl i=c0 at *
    generalize bl i=b0 at *
    generalize dl i=d0 at *
    generalize ml i=m0 at *
    generalize (List.range n).flatMap (fun k=>[.slice (pl k) (nl k) (cl k),.slice (some ⟨bl k,0,none⟩) (nl k+40) (dl k),.int .i64 (ml k:Int)])++r=rows at *
    have hadd4:IntKind.i64.wrap ((n0:Int)+40)=((n0+40:Nat):Int):=i64_in' (by omega) (by omega) (by omega)
    have his:=k_isNum m0 hml
    clear hwL h1
    repeat (first|refine Ta ?_|(refine Tm ?_;intro _)|refine WO.does (a_loadF (vs:=[.slice (some ⟨g,0,none⟩) n cc]) (hs:=hwB) (hle:=Nat.zero_le _) (hc:=rfl)) ?_|refine Tc ?_|exact Tz)
    refine WC.dT rfl (by omega) ?_
    repeat (first|refine Ta ?_|(refine Tm ?_;intro _)|refine WO.does (a_loadF (vs:=[.slice (some ⟨g,0,none⟩) n cc]) (hs:=hwB) (hle:=Nat.zero_le _) (hc:=rfl)) ?_|refine WO.does (does_indexSlice (o':=0+i*3) rfl rfl hlt rfl) ?_|refine WO.does (a_loadF (vs:=[.slice p0 n0 c0,.slice (some ⟨b0,0,none⟩) (n0+40) d0,.int .i64 (m0:Int)]) (hs:=hwR) (hle:=Nat.zero_le _) (hc:=hrow)) ?_|refine WO.does (does_add rfl rfl hadd4) ?_|refine WO.does (does_neqN rfl rfl rfl) ?_|refine Tc ?_|exact Tz)
    rename_i gH
    refine WC.loopI (σ:=Nat) (fun k=>k≤n0+40) (fun k=>[(0,pt bk),(2,.bool false),(3,.int .i64 (i:Int)),(4,pt gH),(5,.int .i64 (k:Int))]) (fun k=>[⟨gH,138,[.slice p0 n0 c0,.slice (some ⟨b0,0,none⟩) (n0+40) d0,.int .i64 (m0:Int)]⟩]) (fun k=>n0+40 - k) 0 (fun k hk=>?_) (Nat.zero_le _)
    try dsimp only at hk ⊢
    by_cases hkn:k<n0+40
    · have hadd3:IntKind.i64.wrap ((k:Int)+1)=((k+1:Nat):Int):=i64_in' (by omega) (by omega) (by omega)
      have hcL:cut (mkz (n0+40) (numC m0)) (0+k*4 - 0) 4=numC m0:=by rw[Nat.zero_add,Nat.sub_zero];exact cut_mkz rfl hkn
      repeat (first|refine Ta ?_|(refine Tm ?_;intro _)|refine Tc ?_|exact Tz)
      refine WC.dT rfl (by omega) ?_
      repeat (first|refine Ta ?_|(refine Tm ?_;intro _)|refine Tc ?_|exact Tz)
      by_cases hko:k<n0
      · rcases hsO with h0|⟨b,rfl,hsO⟩
        · omega
        have hcO:cut (mkz n0 (numC m0)) (0+k*4 - 0) 4=numC m0:=by rw[Nat.zero_add,Nat.sub_zero];exact cut_mkz rfl hko
        refine WC.adraw 27 (k:=?_)
        iterate 27 (first|refine Da ?_|refine DQ.acall (hc:=his) (k:=?_)|refine DQ.does (fun s _=>does_indexSlice (o':=0+k*4) rfl rfl hkn rfl) Dp.const ?_|refine DQ.does (fun s _=>does_indexSlice (o':=0+k*4) rfl rfl hko rfl) Dp.const ?_|refine DQ.does (fun s _=>a_loadF (vs:=numC m0) (hs:=hsL) (hle:=Nat.zero_le _) (hc:=hcL)) Dp.const ?_|refine DQ.does (fun s _=>a_loadF (vs:=numC m0) (hs:=hsO) (hle:=Nat.zero_le _) (hc:=hcO)) Dp.const ?_|refine DQ.does (fun s _=>does_lssY rfl rfl (by omega)) Dp.const ?_|refine Dc ?_)
        refine DQ.anil (k:=?_)
        intro sx _
        repeat (first|refine Ta ?_|(refine Tm ?_;intro _)|refine WO.does (does_add rfl rfl hadd3) ?_|refine Tc ?_|exact Tz)
        exact WX.metI (k+1) (hs:=⟨by show k+1≤n0+40;omega,by show n0+40 - (k+1)<n0+40 - k;omega⟩)
      · refine WC.adraw 27 (k:=?_)
        iterate 27 (first|refine Da ?_|refine DQ.acall (hc:=his) (k:=?_)|refine DQ.does (fun s _=>does_indexSlice (o':=0+k*4) rfl rfl hkn rfl) Dp.const ?_|refine DQ.does (fun s _=>a_loadF (vs:=numC m0) (hs:=hsL) (hle:=Nat.zero_le _) (hc:=hcL)) Dp.const ?_|refine DQ.does (fun s _=>does_lssN rfl rfl (by omega)) Dp.const ?_|refine Dc ?_)
        refine DQ.anil (k:=?_)
        intro sx _
        repeat (first|refine Ta ?_|(refine Tm ?_;intro _)|refine WO.does (does_add rfl rfl hadd3) ?_|refine Tc ?_|exact Tz)
        exact WX.metI (k+1) (hs:=⟨by show k+1≤n0+40;omega,by show n0+40 - (k+1)<n0+40 - k;omega⟩)
    · have hk2:k=n0+40:=by omega
      subst hk2
      repeat (first|refine Ta ?_|(refine Tm ?_;intro _)|refine Tc ?_|exact Tz)
      refine WC.dF rfl (by omega) ?_
      repeat (first|refine Ta ?_|(refine Tm ?_;intro _)|refine WO.does (does_add rfl rfl hadd2) ?_|refine Tc ?_|exact Tz)
      exact WX.metI (i+1) (hs:=⟨by show i+1≤n;omega,by show n - (i+1)<n - i;omega⟩)
  · have hi2:i=n:=by omega
    subst hi2
    repeat (first|refine Ta ?_|(refine Tm ?_;intro _)|refine WO.does (a_loadF (vs:=[.slice (some ⟨g,0,none⟩) i cc]) (hs:=hwB) (hle:=Nat.zero_le _) (hc:=rfl)) ?_|refine Tc ?_|exact Tz)
    refine WC.dF rfl (by omega) ?_
    repeat (first|refine Ta ?_|(refine Tm ?_;intro _)|refine Tc ?_|exact Tz)
set_option maxHeartbeats 2000000 in
theorem k_lookKey (m:Nat) (a c d:Value) (bk g cc n:Nat) (pl:Nat→Option Addr) (nl cl bl dl ml:Nat→Nat) (r:List Value) (hn:n<1000) (h1:∀ k,k<n→nl k≤100∧ml k<1000) :
    Fn Tryz.prog 94 [pt bk] (fun w=>Seg w bk 0 (bkC m a (.slice (some ⟨g,0,none⟩) n cc) c d)∧Seg w g 0 ((List.range n).flatMap (fun k=>[.slice (pl k) (nl k) (cl k),.slice (some ⟨bl k,0,none⟩) (nl k+40) (dl k),.int .i64 (ml k:Int)])++r)∧∀ k,k<n→Seg w (bl k) 0 (mkz (nl k+40) (mkC (ml k)))∧(nl k=0∨∃ b,pl k=some ⟨b,0,none⟩∧Seg w b 0 (mkz (nl k) (mkC (ml k))))) (Is (.bool true)):=by
  refine Fn.enter Tryz.func94 rfl rfl rfl ?_
  intro w hw
  obtain⟨hwB,hwR,hwL⟩:=hw
  repeat (first|refine Ta ?_|(refine Tm ?_;intro _)|refine Tc ?_|exact Tz)
  refine WC.loopI (σ:=Nat) (fun i=>i≤n) (fun i=>[(0,pt bk),(2,.bool false),(3,.int .i64 (i:Int))]) (fun i=>[]) (fun i=>n - i) 0 (fun i hi=>?_) (Nat.zero_le _)
  try dsimp only at hi ⊢
  by_cases hlt:i<n
  · have hrow:cut ((List.range n).flatMap (fun k=>[.slice (pl k) (nl k) (cl k),.slice (some ⟨bl k,0,none⟩) (nl k+40) (dl k),.int .i64 (ml k:Int)])++r) (0+i*3 - 0) 3=[.slice (pl i) (nl i) (cl i),.slice (some ⟨bl i,0,none⟩) (nl i+40) (dl i),.int .i64 (ml i:Int)]:=by rw[Nat.zero_add,Nat.sub_zero];exact cut_st0 (Y:=(fun k=>[.slice (pl k) (nl k) (cl k),.slice (some ⟨bl k,0,none⟩) (nl k+40) (dl k),.int .i64 (ml k:Int)])) hlt (fun k=>rfl)
    obtain⟨hsL,hsO⟩:=hwL i hlt
    obtain⟨hnl,hml⟩:=h1 i hlt
    have hadd2:IntKind.i64.wrap ((i:Int)+1)=((i+1:Nat):Int):=i64_in' (by omega) (by omega) (by omega)
    generalize pl i=p0 at *
    generalize nl i=n0 at *
    generalize cl i=c0 at *
    generalize bl i=b0 at *
    generalize dl i=d0 at *
    generalize ml i=m0 at *
    generalize (List.range n).flatMap (fun k=>[.slice (pl k) (nl k) (cl k),.slice (some ⟨bl k,0,none⟩) (nl k+40) (dl k),.int .i64 (ml k:Int)])++r=rows at *
    have hadd4:IntKind.i64.wrap ((n0:Int)+40)=((n0+40:Nat):Int):=i64_in' (by omega) (by omega) (by omega)
    have his:=k_isKey m0 hml
    clear hwL h1
    repeat (first|refine Ta ?_|(refine Tm ?_;intro _)|refine WO.does (a_loadF (vs:=[.slice (some ⟨g,0,none⟩) n cc]) (hs:=hwB) (hle:=Nat.zero_le _) (hc:=rfl)) ?_|refine Tc ?_|exact Tz)
    refine WC.dT rfl (by omega) ?_
    repeat (first|refine Ta ?_|(refine Tm ?_;intro _)|refine WO.does (a_loadF (vs:=[.slice (some ⟨g,0,none⟩) n cc]) (hs:=hwB) (hle:=Nat.zero_le _) (hc:=rfl)) ?_|refine WO.does (does_indexSlice (o':=0+i*3) rfl rfl hlt rfl) ?_|refine WO.does (a_loadF (vs:=[.slice p0 n0 c0,.slice (some ⟨b0,0,none⟩) (n0+40) d0,.int .i64 (m0:Int)]) (hs:=hwR) (hle:=Nat.zero_le _) (hc:=hrow)) ?_|refine WO.does (does_add rfl rfl hadd4) ?_|refine WO.does (does_neqN rfl rfl rfl) ?_|refine Tc ?_|exact Tz)
    rename_i gH
    refine WC.loopI (σ:=Nat) (fun k=>k≤n0+40) (fun k=>[(0,pt bk),(2,.bool false),(3,.int .i64 (i:Int)),(4,pt gH),(5,.int .i64 (k:Int))]) (fun k=>[⟨gH,162,[.slice p0 n0 c0,.slice (some ⟨b0,0,none⟩) (n0+40) d0,.int .i64 (m0:Int)]⟩]) (fun k=>n0+40 - k) 0 (fun k hk=>?_) (Nat.zero_le _)
    try dsimp only at hk ⊢
    by_cases hkn:k<n0+40
    · have hadd3:IntKind.i64.wrap ((k:Int)+1)=((k+1:Nat):Int):=i64_in' (by omega) (by omega) (by omega)
      have hcL:cut (mkz (n0+40) (mkC m0)) (0+k*8 - 0) 8=mkC m0:=by rw[Nat.zero_add,Nat.sub_zero];exact cut_mkz rfl hkn
      repeat (first|refine Ta ?_|(refine Tm ?_;intro _)|refine Tc ?_|exact Tz)
      refine WC.dT rfl (by omega) ?_
      repeat (first|refine Ta ?_|(refine Tm ?_;intro _)|refine Tc ?_|exact Tz)
      by_cases hko:k<n0
      · rcases hsO with h0|⟨b,rfl,hsO⟩
        · omega
        have hcO:cut (mkz n0 (mkC m0)) (0+k*8 - 0) 8=mkC m0:=by rw[Nat.zero_add,Nat.sub_zero];exact cut_mkz rfl hko
        refine WC.adraw 27 (k:=?_)
        iterate 27 (first|refine Da ?_|refine DQ.acall (hc:=his) (k:=?_)|refine DQ.does (fun s _=>does_indexSlice (o':=0+k*8) rfl rfl hkn rfl) Dp.const ?_|refine DQ.does (fun s _=>does_indexSlice (o':=0+k*8) rfl rfl hko rfl) Dp.const ?_|refine DQ.does (fun s _=>a_loadF (vs:=mkC m0) (hs:=hsL) (hle:=Nat.zero_le _) (hc:=hcL)) Dp.const ?_|refine DQ.does (fun s _=>a_loadF (vs:=mkC m0) (hs:=hsO) (hle:=Nat.zero_le _) (hc:=hcO)) Dp.const ?_|refine DQ.does (fun s _=>does_lssY rfl rfl (by omega)) Dp.const ?_|refine Dc ?_)
        refine DQ.anil (k:=?_)
        intro sx _
        repeat (first|refine Ta ?_|(refine Tm ?_;intro _)|refine WO.does (does_add rfl rfl hadd3) ?_|refine Tc ?_|exact Tz)
        exact WX.metI (k+1) (hs:=⟨by show k+1≤n0+40;omega,by show n0+40 - (k+1)<n0+40 - k;omega⟩)
      · refine WC.adraw 27 (k:=?_)
        iterate 27 (first|refine Da ?_|refine DQ.acall (hc:=his) (k:=?_)|refine DQ.does (fun s _=>does_indexSlice (o':=0+k*8) rfl rfl hkn rfl) Dp.const ?_|refine DQ.does (fun s _=>a_loadF (vs:=mkC m0) (hs:=hsL) (hle:=Nat.zero_le _) (hc:=hcL)) Dp.const ?_|refine DQ.does (fun s _=>does_lssN rfl rfl (by omega)) Dp.const ?_|refine Dc ?_)
        refine DQ.anil (k:=?_)
        intro sx _
        repeat (first|refine Ta ?_|(refine Tm ?_;intro _)|refine WO.does (does_add rfl rfl hadd3) ?_|refine Tc ?_|exact Tz)
        exact WX.metI (k+1) (hs:=⟨by show k+1≤n0+40;omega,by show n0+40 - (k+1)<n0+40 - k;omega⟩)
    · have hk2:k=n0+40:=by omega
      subst hk2
      repeat (first|refine Ta ?_|(refine Tm ?_;intro _)|refine Tc ?_|exact Tz)
      refine WC.dF rfl (by omega) ?_
      repeat (first|refine Ta ?_|(refine Tm ?_;intro _)|refine WO.does (does_add rfl rfl hadd2) ?_|refine Tc ?_|exact Tz)
      exact WX.metI (i+1) (hs:=⟨by show i+1≤n;omega,by show n - (i+1)<n - i;omega⟩)
  · have hi2:i=n:=by omega
    subst hi2
    repeat (first|refine Ta ?_|(refine Tm ?_;intro _)|refine WO.does (a_loadF (vs:=[.slice (some ⟨g,0,none⟩) i cc]) (hs:=hwB) (hle:=Nat.zero_le _) (hc:=rfl)) ?_|refine Tc ?_|exact Tz)
    refine WC.dF rfl (by omega) ?_
    repeat (first|refine Ta ?_|(refine Tm ?_;intro _)|refine Tc ?_|exact Tz)
set_option maxHeartbeats 2000000 in
theorem k_lookProof (m:Nat) (a b d:Value) (bk g cc n:Nat) (pl:Nat→Option Addr) (nl cl bl dl ml:Nat→Nat) (r:List Value) (hn:n<1000) (h1:∀ k,k<n→nl k≤100∧ml k<1000) :
    Fn Tryz.prog 95 [pt bk] (fun w=>Seg w bk 0 (bkC m a b (.slice (some ⟨g,0,none⟩) n cc) d)∧Seg w g 0 ((List.range n).flatMap (fun k=>[.slice (pl k) (nl k) (cl k),.slice (some ⟨bl k,0,none⟩) (nl k+40) (dl k),.int .i64 (ml k:Int)])++r)∧∀ k,k<n→Seg w (bl k) 0 (mkz (nl k+40) (mkC (ml k)))∧(nl k=0∨∃ b,pl k=some ⟨b,0,none⟩∧Seg w b 0 (mkz (nl k) (mkC (ml k))))) (Is (.bool true)):=by
  refine Fn.enter Tryz.func95 rfl rfl rfl ?_
  intro w hw
  obtain⟨hwB,hwR,hwL⟩:=hw
  repeat (first|refine Ta ?_|(refine Tm ?_;intro _)|refine Tc ?_|exact Tz)
  refine WC.loopI (σ:=Nat) (fun i=>i≤n) (fun i=>[(0,pt bk),(2,.bool false),(3,.int .i64 (i:Int))]) (fun i=>[]) (fun i=>n - i) 0 (fun i hi=>?_) (Nat.zero_le _)
  try dsimp only at hi ⊢
  by_cases hlt:i<n
  · have hrow:cut ((List.range n).flatMap (fun k=>[.slice (pl k) (nl k) (cl k),.slice (some ⟨bl k,0,none⟩) (nl k+40) (dl k),.int .i64 (ml k:Int)])++r) (0+i*3 - 0) 3=[.slice (pl i) (nl i) (cl i),.slice (some ⟨bl i,0,none⟩) (nl i+40) (dl i),.int .i64 (ml i:Int)]:=by rw[Nat.zero_add,Nat.sub_zero];exact cut_st0 (Y:=(fun k=>[.slice (pl k) (nl k) (cl k),.slice (some ⟨bl k,0,none⟩) (nl k+40) (dl k),.int .i64 (ml k:Int)])) hlt (fun k=>rfl)
    obtain⟨hsL,hsO⟩:=hwL i hlt
    obtain⟨hnl,hml⟩:=h1 i hlt
    have hadd2:IntKind.i64.wrap ((i:Int)+1)=((i+1:Nat):Int):=i64_in' (by omega) (by omega) (by omega)
    generalize pl i=p0 at *
    generalize nl i=n0 at *
    generalize cl i=c0 at *
    generalize bl i=b0 at *
    generalize dl i=d0 at *
    generalize ml i=m0 at *
    generalize (List.range n).flatMap (fun k=>[.slice (pl k) (nl k) (cl k),.slice (some ⟨bl k,0,none⟩) (nl k+40) (dl k),.int .i64 (ml k:Int)])++r=rows at *
    have hadd4:IntKind.i64.wrap ((n0:Int)+40)=((n0+40:Nat):Int):=i64_in' (by omega) (by omega) (by omega)
    have his:=k_isProof m0 hml
    clear hwL h1
    repeat (first|refine Ta ?_|(refine Tm ?_;intro _)|refine WO.does (a_loadF (vs:=[.slice (some ⟨g,0,none⟩) n cc]) (hs:=hwB) (hle:=Nat.zero_le _) (hc:=rfl)) ?_|refine Tc ?_|exact Tz)
    refine WC.dT rfl (by omega) ?_
    repeat (first|refine Ta ?_|(refine Tm ?_;intro _)|refine WO.does (a_loadF (vs:=[.slice (some ⟨g,0,none⟩) n cc]) (hs:=hwB) (hle:=Nat.zero_le _) (hc:=rfl)) ?_|refine WO.does (does_indexSlice (o':=0+i*3) rfl rfl hlt rfl) ?_|refine WO.does (a_loadF (vs:=[.slice p0 n0 c0,.slice (some ⟨b0,0,none⟩) (n0+40) d0,.int .i64 (m0:Int)]) (hs:=hwR) (hle:=Nat.zero_le _) (hc:=hrow)) ?_|refine WO.does (does_add rfl rfl hadd4) ?_|refine WO.does (does_neqN rfl rfl rfl) ?_|refine Tc ?_|exact Tz)
    rename_i gH
    refine WC.loopI (σ:=Nat) (fun k=>k≤n0+40) (fun k=>[(0,pt bk),(2,.bool false),(3,.int .i64 (i:Int)),(4,pt gH),(5,.int .i64 (k:Int))]) (fun k=>[⟨gH,165,[.slice p0 n0 c0,.slice (some ⟨b0,0,none⟩) (n0+40) d0,.int .i64 (m0:Int)]⟩]) (fun k=>n0+40 - k) 0 (fun k hk=>?_) (Nat.zero_le _)
    try dsimp only at hk ⊢
    by_cases hkn:k<n0+40
    · have hadd3:IntKind.i64.wrap ((k:Int)+1)=((k+1:Nat):Int):=i64_in' (by omega) (by omega) (by omega)
      have hcL:cut (mkz (n0+40) (mkC m0)) (0+k*8 - 0) 8=mkC m0:=by rw[Nat.zero_add,Nat.sub_zero];exact cut_mkz rfl hkn
      repeat (first|refine Ta ?_|(refine Tm ?_;intro _)|refine Tc ?_|exact Tz)
      refine WC.dT rfl (by omega) ?_
      repeat (first|refine Ta ?_|(refine Tm ?_;intro _)|refine Tc ?_|exact Tz)
      by_cases hko:k<n0
      · rcases hsO with h0|⟨b,rfl,hsO⟩
        · omega
        have hcO:cut (mkz n0 (mkC m0)) (0+k*8 - 0) 8=mkC m0:=by rw[Nat.zero_add,Nat.sub_zero];exact cut_mkz rfl hko
        refine WC.adraw 27 (k:=?_)
        iterate 27 (first|refine Da ?_|refine DQ.acall (hc:=his) (k:=?_)|refine DQ.does (fun s _=>does_indexSlice (o':=0+k*8) rfl rfl hkn rfl) Dp.const ?_|refine DQ.does (fun s _=>does_indexSlice (o':=0+k*8) rfl rfl hko rfl) Dp.const ?_|refine DQ.does (fun s _=>a_loadF (vs:=mkC m0) (hs:=hsL) (hle:=Nat.zero_le _) (hc:=hcL)) Dp.const ?_|refine DQ.does (fun s _=>a_loadF (vs:=mkC m0) (hs:=hsO) (hle:=Nat.zero_le _) (hc:=hcO)) Dp.const ?_|refine DQ.does (fun s _=>does_lssY rfl rfl (by omega)) Dp.const ?_|refine Dc ?_)
        refine DQ.anil (k:=?_)
        intro sx _
        repeat (first|refine Ta ?_|(refine Tm ?_;intro _)|refine WO.does (does_add rfl rfl hadd3) ?_|refine Tc ?_|exact Tz)
        exact WX.metI (k+1) (hs:=⟨by show k+1≤n0+40;omega,by show n0+40 - (k+1)<n0+40 - k;omega⟩)
      · refine WC.adraw 27 (k:=?_)
        iterate 27 (first|refine Da ?_|refine DQ.acall (hc:=his) (k:=?_)|refine DQ.does (fun s _=>does_indexSlice (o':=0+k*8) rfl rfl hkn rfl) Dp.const ?_|refine DQ.does (fun s _=>a_loadF (vs:=mkC m0) (hs:=hsL) (hle:=Nat.zero_le _) (hc:=hcL)) Dp.const ?_|refine DQ.does (fun s _=>does_lssN rfl rfl (by omega)) Dp.const ?_|refine Dc ?_)
        refine DQ.anil (k:=?_)
        intro sx _
        repeat (first|refine Ta ?_|(refine Tm ?_;intro _)|refine WO.does (does_add rfl rfl hadd3) ?_|refine Tc ?_|exact Tz)
        exact WX.metI (k+1) (hs:=⟨by show k+1≤n0+40;omega,by show n0+40 - (k+1)<n0+40 - k;omega⟩)
    · have hk2:k=n0+40:=by omega
      subst hk2
      repeat (first|refine Ta ?_|(refine Tm ?_;intro _)|refine Tc ?_|exact Tz)
      refine WC.dF rfl (by omega) ?_
      repeat (first|refine Ta ?_|(refine Tm ?_;intro _)|refine WO.does (does_add rfl rfl hadd2) ?_|refine Tc ?_|exact Tz)
      exact WX.metI (i+1) (hs:=⟨by show i+1≤n;omega,by show n - (i+1)<n - i;omega⟩)
  · have hi2:i=n:=by omega
    subst hi2
    repeat (first|refine Ta ?_|(refine Tm ?_;intro _)|refine WO.does (a_loadF (vs:=[.slice (some ⟨g,0,none⟩) i cc]) (hs:=hwB) (hle:=Nat.zero_le _) (hc:=rfl)) ?_|refine Tc ?_|exact Tz)
    refine WC.dF rfl (by omega) ?_
    repeat (first|refine Ta ?_|(refine Tm ?_;intro _)|refine Tc ?_|exact Tz)
end Sx
end Go.Proofs.YtmhligfnchegdaaGreatDoor
