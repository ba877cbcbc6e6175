/- Part 21 of the proof: ShK, NuA, NuB, NuC, NuD -/
import Derived.Test.YtmhligfnchegdaaGreatDoorM20
import Derived.Test.YtmhligfnchegdaaGreatDoorM10
import Derived.Test.YtmhligfnchegdaaGreatDoorM17
set_option linter.unusedSimpArgs false
set_option linter.unusedVariables false
namespace Go.Proofs.YtmhligfnchegdaaGreatDoor
open Go Go.RowKit Go.BigFrame
namespace Sx
theorem sumC_all {s buf:List Nat} {n:Nat} (h1:s.length=8) (h2:buf.length=64):cut (sumC s buf n) 0 74=sumC s buf n:=by
  unfold cut;rw[List.drop_zero,List.take_of_length_le (by rw[sumC_length h1 h2];omega)]
theorem sumC_one (s buf:List Nat) (n:Nat):(sumC s buf n).all Value.oneCell'=true:=by
  simp[sumC,List.all_append,w3C,byC,Value.oneCell']
theorem over_all {cs vs:List Value} (h:cs.length=vs.length):over cs 0 vs=vs:=by
  unfold over;rw[List.take_zero,Nat.zero_add,List.drop_of_length_le (by omega)];simp
theorem WC.ndp {P:Program} {w0:World} {gs:List Nat} {n:Nat} {c:Code} {Q:Exit→Act→World→Prop} {K:List (Nat × Value)} {L:List Ent} (k:(L.map Ent.g).Nodup→WC P w0 gs n c Q K L):WC P w0 gs n c Q K L:=fun a w h1 h2 h3 h4=>k h4.nodup a w h1 h2 h3 h4
attribute [local irreducible] wd DQ DQS WO WC WX
theorem takes_len {s b:List Nat} (h:s.length=8):∀ q,(Sha.takes s b q).length=8
  | 0=>h
  | q+1=>take_len (takes_len h q)
theorem sumC_w {s buf:List Nat} {n i:Nat} (h1:s.length=8) (hi:i<8):(sumC s buf n)[1+i]?=some (.int .u32 ((s.getD i 0:Nat):Int)):=by
  unfold sumC
  rw[List.append_assoc,List.getElem?_append_right (by simp),List.getElem?_append_left (by simp[w3C_length,h1];omega)]
  simp[w3C,List.getD,show i<s.length by omega]
theorem cut_all {cs:List Value} {n:Nat} (h:cs.length=n):cut cs 0 n=cs:=by
  unfold cut;rw[List.drop_zero,List.take_of_length_le (by omega)]
set_option maxHeartbeats 2000000 in
theorem c_SumHash (g:Nat) (m s buf:List Nat) (n:Nat) (hH:Held m s buf n) (hs8:s.length=8) (hsl:∀ x∈s,x<4294967296) (hbl:∀ x∈buf,x<256) (hn:n≤1152921504606846000) :
    Fn Tryz.prog 113 [pt g] (fun w=>Seg w g 0 (sumC s buf n)) (Is (.agg (byC (Sha.sum m)).toArray)):=by
  have hb64:=hH.len
  have hcut:=sumC_all (n:=n) hs8 hb64
  have hl74:=sumC_length (n:=n) hs8 hb64
  have hgn:=sumC_n (n:=n) hs8 hb64
  have h8n:IntKind.u64.wrap (8*(n:Int))=((8*n:Nat):Int):=u64_in' (by omega) (by omega) (by omega)
  have hpl:Sha.pad n<64:=Nat.mod_lt _ (by omega)
  have h88:=be_length 8 (8*n)
  refine Fn.enter Tryz.func113 rfl rfl rfl ?_
  intro w hw
  repeat (first|refine WO.does (a_loadF (vs:=sumC s buf n) (hs:=hw) (hc:=hcut) (hl:=hl74)) ?_|refine WO.stores (a_store (vs:=sumC s buf n) (cs':=sumC s buf n) (hl:=hl74) (h1:=sumC_one s buf n) (hc:=over_all (by rw[hl74];simp)) (hle:=by rw[hl74];rfl)) ?_|refine WO.does (a_loadF1 (hs:=hw) (hc:=hgn)) ?_|refine WO.does (does_mul rfl rfl h8n) ?_|refine Ta ?_|(refine Tm ?_;intro _)|refine WO.does (does_ptrNil (t:=114) (e:=263) (by kernel_rfl) rfl rfl) ?_|(refine WO.makes (makes_slice (l:=1) (c:=64) rfl rfl (by decide) (by decide) (by decide)) ?_;intro q)|refine Tc ?_|exact Tz)
  rename_i g2 g3
  refine WC.loopI (σ:=Nat × Nat × Nat × List Value) (fun x=>1≤x.1∧x.1≤Sha.pad n+1∧(byC (128::List.replicate (x.1 - 1) 0)++x.2.2.2).length=x.2.2.1∧x.2.2.1<9223372036854775808)
    (fun x=>[(0,pt g),(2,pt g2),(3,pt g3),(4,.int .u64 ((8*n:Nat):Int)),(5,.slice (some ⟨x.2.1,0,none⟩) x.1 x.2.2.1)])
    (fun x=>[⟨x.2.1,5,byC (128::List.replicate (x.1 - 1) 0)++x.2.2.2⟩,⟨g3,263,sumC s buf n⟩,⟨g2,82,List.replicate 32 (.int .u8 0)⟩]) (fun x=>Sha.pad n+1 - x.1)
    (1,q,64,(mkz 64 [Value.int .u8 0]).drop 1) (fun x hx=>?_) ⟨Nat.le_refl _,by show 1≤Sha.pad n+1;omega,by simp[byC_length,mkz_length],by show 64<9223372036854775808;omega⟩
  obtain⟨l,q',c,r⟩:=x
  obtain⟨hl1,hl2,hlc,hc⟩:=hx
  dsimp only at hl1 hl2 hlc hc ⊢
  have hst:=pad_stop (n:=n) hl1 hl2
  have ha:IntKind.u64.wrap ((n:Int)+((l:Nat):Int))=((n+l:Nat):Int):=u64_in' (by omega) (by omega) (by omega)
  have hcv:IntKind.u64.wrap ((l:Nat):Int)=((l:Nat):Int):=u64_in (by omega) (by omega)
  have hrm:((n+l:Nat):Int).tmod 64=(((n+l)%64:Nat):Int):=rem64 (n+l)
  have hbl1:(byC (128::List.replicate (l - 1) 0)).length=l:=by rw[byC_length];simp;omega
  repeat (first|refine WO.does (a_loadF1 (hs:=hw) (hc:=hgn)) ?_|refine WO.does (does_add rfl rfl ha) ?_|refine WO.does (does_conv rfl hcv) ?_|refine WO.does (does_rem rfl rfl (by decide) hrm) ?_|refine Ta ?_|(refine Tm ?_;intro _)|refine Tc ?_|exact Tz)
  by_cases hs:l=Sha.pad n+1
  · have h56:(n+l)%64=56:=hst.2 hs
    subst hs
    refine WC.dF rfl (by rw[h56];decide) ?_
    repeat (first|refine Ta ?_|(refine Tm ?_;intro _)|refine Tc ?_|exact Tz)
    have hsh:∀ k,k<8→(((8*n:Nat):Int)).fdiv (2 ^ min (((56 - 8*k:Nat):Int)).toNat IntKind.u64.bits)=((8*n / 2 ^ (8*(7 - k)):Nat):Int):=fun k hk=>by
      rw[shr_nat (by show 56 - 8*k≤64;omega),show 56 - 8*k=8*(7 - k) by omega]
    refine WC.loopI (σ:=Nat × Nat × Nat × List Value) (fun x=>x.1≤8∧(byC (128::List.replicate (Sha.pad n) 0++(be 8 (8*n)).take x.1)++x.2.2.2).length=x.2.2.1∧x.2.2.1<9223372036854775808)
      (fun x=>[(0,pt g),(2,pt g2),(3,pt g3),(4,.int .u64 ((8*n:Nat):Int)),(5,.slice (some ⟨x.2.1,0,none⟩) (Sha.pad n+1+x.1) x.2.2.1),(42,.int .i64 (x.1:Int))])
      (fun x=>[⟨x.2.1,5,byC (128::List.replicate (Sha.pad n) 0++(be 8 (8*n)).take x.1)++x.2.2.2⟩,⟨g3,263,sumC s buf n⟩,⟨g2,82,List.replicate 32 (.int .u8 0)⟩]) (fun x=>8 - x.1)
      (0,q',c,r) (hl:=(by repeat (first|exact Lle.nil|refine Lle.cons (by repeat (first|exact Pk.here|apply Pk.there)) (by first|rfl|simp) ?_))) (fun x hx=>?_) ⟨Nat.zero_le _,by simpa using hlc,hc⟩
    clear hlc hc r c q' ha hcv hrm
    obtain⟨k,q',c,r⟩:=x
    obtain⟨hk8,hlc,hc⟩:=hx
    dsimp only at hk8 hlc hc ⊢
    have hbl2:(byC (128::List.replicate (Sha.pad n) 0++(be 8 (8*n)).take k)).length=Sha.pad n+1+k:=by rw[byC_length];simp;omega
    repeat (first|refine Ta ?_|(refine Tm ?_;intro _)|refine Tc ?_|exact Tz)
    by_cases hk:k<8
    · refine WC.dT rfl (by omega) ?_
      have hm:IntKind.i64.wrap (8*((k:Nat):Int))=((8*k:Nat):Int):=i64_in' (by omega) (by omega) (by omega)
      have hsb:IntKind.i64.wrap (56 - ((8*k:Nat):Int))=((56 - 8*k:Nat):Int):=i64_in' (by omega) (by omega) (by omega)
      have hk1:IntKind.i64.wrap (((k:Nat):Int)+1)=((k+1:Nat):Int):=i64_in' (by omega) (by omega) (by omega)
      have hgt:(be 8 (8*n)).take (k+1)=(be 8 (8*n)).take k++[8*n / 2 ^ (8*(7 - k))%256]:=by
        rw[List.take_add_one,be_get hk,show 8 - 1 - k=7 - k by omega];rfl
      have hbk:byC (128::List.replicate (Sha.pad n) 0++(be 8 (8*n)).take (k+1))=byC (128::List.replicate (Sha.pad n) 0++(be 8 (8*n)).take k)++[.int .u8 ((8*n / 2 ^ (8*(7 - k))%256:Nat):Int)]:=by
        rw[hgt,← List.append_assoc,byC_append];rfl
      repeat (first|refine WO.does (does_mul rfl rfl hm) ?_|refine WO.does (does_sub rfl rfl hsb) ?_|refine WO.does (does_shr rfl rfl (by omega) (hsh k hk)) ?_|refine WO.does (does_conv rfl (u8_nat _)) ?_|refine Ta ?_|(refine Tm ?_;intro _)|(refine WO.makes (makes_build (cs:=[.int .u8 ((8*n / 2 ^ (8*(7 - k))%256:Nat):Int)]) rfl (by decide) rfl) ?_;intro gb)|refine Tc ?_|exact Tz)
      refine WO.appB (m:=1) (l:=Sha.pad n+1+(k+1)) rfl rfl hbl2 hlc (Pk.there Pk.here) (Rds.own (m:=1) Hs.here rfl) rfl rfl (by omega) (by omega) hc (by omega) (by decide) (by decide) (fun q2 c2 r2 hr2 hc2=>?_)
      repeat (first|refine WO.does (does_add rfl rfl hk1) ?_|refine Ta ?_|(refine Tm ?_;intro _)|refine Tc ?_|exact Tz)
      exact WX.metI (k+1,q2,c2,r2) (hl:=(by repeat (first|exact Lle.nil|refine Lle.cons (by repeat (first|exact Pk.here|apply Pk.there)) (by first|rfl|(rw[hbk];rfl)) ?_))) (hs:=⟨⟨by show k+1≤8;omega,by dsimp only;rw[hbk];exact hr2,hc2⟩,by show 8 - (k+1)<8 - k;omega⟩)
    · have hk8:k=8:=by omega
      subst hk8
      have htk:(be 8 (8*n)).take 8=be 8 (8*n):=List.take_of_length_le (by rw[h88];omega)
      refine WC.dF rfl (by omega) ?_
      have hW:=c_writes g3 c (some ⟨q',0,none⟩) s buf n (padL n) (padL_lt n) hs8 hsl hb64 hbl (by rw[padL_length];omega)
      have hHw:=Held.wr (padL n).length (Nat.le_refl _) hH (X:=padL n)
      have hT:Sha.sum m=Sha.outs (wr s buf n (padL n)).1:=by
        unfold Sha.sum
        have:=hH.n
        rw[padL_eq (by omega),← this,← hHw.s]
      have hs8' : (wr s buf n (padL n)).1.length=8:=by rw[hHw.s];exact takes_len rfl _
      have hb64':=hHw.len
      rw[padL_length] at hW
      rw[hT]
      have hrow:byC (128::List.replicate (Sha.pad n) 0++(be 8 (8*n)).take 8)=byC (padL n):=by rw[htk];rfl
      rw[hrow] at hlc ⊢
      clear hHw hT hH hrow htk hsh
      generalize (wr s buf n (padL n)).1=s' at *
      generalize (wr s buf n (padL n)).2.1=b' at *
      generalize (wr s buf n (padL n)).2.2=n' at *
      have hl74':=sumC_length (n:=n') hs8' hb64'
      refine WC.ndp (fun hnd=>?_)
      have hne:q'≠g3:=by simp at hnd;exact hnd.1.1
      repeat (first|refine Ta ?_|(refine Tm ?_;intro _)|refine Tc ?_|exact Tz)
      refine WO.callM (hc:=hW) rfl (Rp.there Rp.here) (fun w' hm=>⟨some ⟨q',0,none⟩,c,rfl,by rw[← hlc,List.length_append,byC_length,padL_length];omega,hc,by rw[byC_length,padL_length],.inr ⟨q',0,rfl,hne,((Hs.here).seg hm).sub (k:=0) (m:=Sha.pad n+9) (by unfold cut;rw[List.drop_zero,List.take_append_of_le_length (by rw[byC_length,padL_length];omega),List.take_of_length_le (by rw[byC_length,padL_length];omega)])⟩⟩) (by decide) ?_ rfl rfl
      repeat (first|refine Ta ?_|(refine Tm ?_;intro _)|refine Tc ?_|exact Tz)
      have hT32:(Sha.outs s').length=32:=by rw[outs_length,hs8']
      refine WC.loopI (σ:=Nat) (fun i=>i≤32) (fun i=>[(2,pt g2),(3,pt g3),(57,.int .i64 (i:Int))]) (fun i=>[⟨g3,263,sumC s' b' n'⟩,⟨g2,82,pad (Sha.outs s') i⟩]) (fun i=>32 - i) 0 (hl:=(by repeat (first|exact Lle.nil|refine Lle.cons (by repeat (first|exact Pk.here|apply Pk.there)) (by first|rfl|(unfold pad;rw[hT32];rfl)) ?_))) (fun i hi=>?_) (Nat.zero_le _)
      repeat (first|refine Ta ?_|(refine Tm ?_;intro _)|refine Tc ?_|exact Tz)
      by_cases hi2:i<32
      · refine WC.dT rfl (by omega) ?_
        have hT1:=outs_get (s:=s') (i:=i) (by omega)
        have hov:=pad_over hT1
        have hq:IntKind.i64.wrap (((i:Nat):Int).tdiv 4)=((i / 4:Nat):Int):=i64_in' (by rw[Int.tdiv_eq_ediv_of_nonneg (by omega)];omega) (by rw[Int.tdiv_eq_ediv_of_nonneg (by omega)];omega) (by rw[Int.tdiv_eq_ediv_of_nonneg (by omega)];omega)
        have hr:((i:Nat):Int).tmod 4=((i%4:Nat):Int):=by rw[Int.tmod_eq_emod_of_nonneg (by omega)];omega
        have hm:IntKind.i64.wrap (((i%4:Nat):Int)*8)=((8*(i%4):Nat):Int):=i64_in' (by omega) (by omega) (by omega)
        have hsb:IntKind.i64.wrap (24 - ((8*(i%4):Nat):Int))=((8*(3 - i%4):Nat):Int):=i64_in' (by omega) (by omega) (by omega)
        have hi1:IntKind.i64.wrap (((i:Nat):Int)+1)=((i+1:Nat):Int):=i64_in' (by omega) (by omega) (by omega)
        have hw1:=sumC_w (s:=s') (buf:=b') (n:=n') hs8' (show i / 4<8 by omega)
        have hsh:((s'.getD (i / 4) 0:Nat):Int).fdiv (2 ^ min (((8*(3 - i%4):Nat):Int)).toNat IntKind.u32.bits)=((s'.getD (i / 4) 0 / 2 ^ (8*(3 - i%4)):Nat):Int):=shr_nat (by show 8*(3 - i%4)≤32;omega)
        have hpl1:(pad (Sha.outs s') i).length=32:=by rw[pad_length (by omega),hT32]
        generalize s'.getD (i / 4) 0 / 2 ^ (8*(3 - i%4))=vv at *
        repeat (first|refine WO.does (does_quo rfl rfl (by decide) hq) ?_|refine WO.does (does_indexAddr (o':=1+i / 4) rfl rfl (by omega) (by omega)) ?_|refine WO.does (a_load1 (hc:=hw1)) ?_|refine WO.does (does_rem rfl rfl (by decide) hr) ?_|refine WO.does (does_mul rfl rfl hm) ?_|refine WO.does (does_sub rfl rfl hsb) ?_|refine WO.does (does_shr rfl rfl (by omega) hsh) ?_|refine WO.does (does_conv rfl (u8_nat _)) ?_|refine WO.does (does_indexAddr (o':=i) rfl rfl (by omega) (by omega)) ?_|refine WO.stores (a_store (hc:=hov) (hle:=by rw[hpl1];exact Nat.ble_eq_true_of_le hi2)) ?_|refine WO.does (does_add rfl rfl hi1) ?_|refine Ta ?_|(refine Tm ?_;intro _)|refine Tc ?_|exact Tz)
        exact WX.metI (i+1) (hs:=⟨by omega,by omega⟩)
      · have hi3:i=32:=by omega
        subst hi3
        have hpf:pad (Sha.outs s') 32=byC (Sha.outs s'):=by rw[← hT32];exact pad_full _
        have hbl32:(byC (Sha.outs s')).length=32:=by rw[byC_length,hT32]
        rw[hpf]
        refine WC.dF rfl (by omega) ?_
        repeat (first|refine WO.does (a_load (vs:=byC (Sha.outs s')) (hc:=cut_all hbl32) (hl:=hbl32)) ?_|refine WO.stores (a_store (vs:=byC (Sha.outs s')) (cs':=byC (Sha.outs s')) (hl:=hbl32) (h1:=byC_one _) (hc:=over_all rfl) (hle:=by rw[hbl32];rfl)) ?_|refine Ta ?_|(refine Tm ?_;intro _)|refine Tc ?_|exact Tz)
        exact WX.aret1 (hr:=a_rvc (vs:=byC (Sha.outs s')) (hc:=cut_all hbl32) (hl:=hbl32)) (hp:=rfl)
  · refine WC.dT rfl (by omega) ?_
    have hbk:byC (128::List.replicate (l+1 - 1) 0)=byC (128::List.replicate (l - 1) 0)++[.int .u8 0]:=by
      rw[show l+1 - 1=l - 1+1 by omega,List.replicate_succ',← List.cons_append,byC_append];rfl
    repeat (first|refine Ta ?_|(refine Tm ?_;intro _)|(refine WO.makes (makes_build (cs:=[.int .u8 0]) rfl (by decide) rfl) ?_;intro gb)|refine Tc ?_|exact Tz)
    refine WO.appB (m:=1) (l:=l+1) rfl rfl hbl1 hlc (Pk.there Pk.here) (Rds.own (m:=1) Hs.here rfl) rfl rfl (by omega) (by omega) hc (by omega) (by decide) (by decide) (fun q2 c2 r2 hr2 hc2=>?_)
    repeat (first|refine Ta ?_|(refine Tm ?_;intro _)|refine Tc ?_|exact Tz)
    exact WX.metI (l+1,q2,c2,r2) (hl:=(by repeat (first|exact Lle.nil|refine Lle.cons (by repeat (first|exact Pk.here|apply Pk.there)) (by first|rfl|(rw[hbk];rfl)) ?_))) (hs:=⟨⟨by show 1≤l+1;omega,by show l+1≤Sha.pad n+1;omega,by dsimp only;rw[hbk];exact hr2,hc2⟩,by show Sha.pad n+1 - (l+1)<Sha.pad n+1 - l;omega⟩)
end Sx
end Go.Proofs.YtmhligfnchegdaaGreatDoor
namespace Go.Proofs.YtmhligfnchegdaaGreatDoor
open Go Go.RowKit
namespace Sx
attribute [local irreducible] wd DQ DQS WO WC WX
set_option maxHeartbeats 1000000 in
theorem c_put (B W:List Nat) (wd c cw:Nat) (p:Option Addr) (bw ow:Nat) (h8:wd≤8) (hl:B.length+W.length*wd≤1099511627776) (hWl:W.length≤1099511627776) :
    Fn Tryz.prog 114 [.slice p B.length c,.int .i64 (wd:Int),.slice (some ⟨bw,ow,none⟩) W.length cw] (fun w=>Rd (.slice p B.length c) B.length (byC B) w∧Seg w bw ow (woC W))
      (NewS 5 (B++beL wd W).length (byC (B++beL wd W))):=by
  have hT:(B++beL wd W).length=B.length+W.length*wd:=by rw[List.length_append,beL_length]
  have hmul:IntKind.i64.wrap ((wd:Int)*(W.length:Int))=((W.length*wd:Nat):Int):=by
    rw[Int.mul_comm,← Int.natCast_mul];exact i64_in (by omega) (by omega)
  have hadd:IntKind.i64.wrap ((B.length:Int)+((W.length*wd:Nat):Int))=(((B++beL wd W).length:Nat):Int):=by
    rw[← Int.natCast_add,hT];exact i64_in (by omega) (by omega)
  generalize hTT:B++beL wd W=T at *
  refine Fn.enter Tryz.func114 rfl rfl rfl ?_
  intro w hw
  obtain⟨hB,hW⟩:=hw
  repeat (first|refine Td ?_|(refine Tm ?_;intro _)|refine WO.does (does_mul rfl rfl hmul) ?_|refine WO.does (does_add rfl rfl hadd) ?_|(refine WO.makes (makes_slice rfl rfl (by rw[hT];omega) (by rw[hT];omega) (by rw[hT];omega)) ?_;intro _)|refine WO.both (both_copy (st:=84) rfl rfl rfl hB.rds (by rw[byC_length,Nat.mul_one]) (m:=B.length) (by simp) (ys:=byC B) (by rw[Nat.mul_one,← byC_length,List.take_length]) (byC_one B) .here (cs':=pad T B.length) (by rw[mkz_one,← hTT];exact pad_copy B _) (by rw[mkz_one,List.length_replicate,byC_length,hT];omega) (by decide)) ?_|refine Tc ?_|exact Tz)
  rename_i g
  refine WC.loopI (σ:=Nat) (fun i=>i≤W.length) (fun i=>[(1,.int .i64 (wd:Int)),(7,.slice (some ⟨g,0,none⟩) (B.length+i*wd) T.length),(24,.slice (some ⟨bw,ow,none⟩) W.length cw),(25,.int .i64 (W.length:Int)),(26,.int .i64 (i:Int))])
    (fun i=>[⟨g,5,pad T (B.length+i*wd)⟩]) (fun i=>W.length - i) 0 (fun i hi=>?_) (Nat.zero_le _) (by
      rw[Nat.zero_mul,Nat.add_zero]
      repeat (first|exact Kle.nil|refine Kle.cons rfl rfl ?_)) (by
      rw[Nat.zero_mul,Nat.add_zero]
      repeat (first|exact Lle.nil|refine Lle.cons (by repeat (first|exact Pk.here|apply Pk.there)) rfl ?_))
  try dsimp only at hi ⊢
  by_cases hlt:i<W.length
  · have hge:i*wd+wd≤W.length*wd:=by have:=Nat.mul_le_mul_right wd (Nat.succ_le_of_lt hlt);rwa [Nat.succ_mul] at this
    have hget:(woC W)[ow+i - ow]?=some (.int .u64 ((W[i]:Nat):Int)):=by rw[Nat.add_sub_cancel_left];exact woC_get hlt
    repeat (first|refine Td ?_|(refine Tm ?_;intro _)|refine Tc ?_|exact Tz)
    refine WC.dT rfl (by omega) ?_
    repeat (first|refine Td ?_|(refine Tm ?_;intro _)|refine Tc ?_|exact Tz)
    refine WC.loopI (σ:=Nat) (fun j=>j≤wd) (fun j=>[(1,.int .i64 (wd:Int)),(7,.slice (some ⟨g,0,none⟩) (B.length+i*wd+j) T.length),(9,.int .u64 ((W[i]:Nat):Int)),(24,.slice (some ⟨bw,ow,none⟩) W.length cw),(25,.int .i64 (W.length:Int)),(26,.int .i64 (i:Int)),(30,.int .i64 (wd:Int)),(31,.int .i64 (j:Int))])
      (fun j=>[⟨g,5,pad T (B.length+i*wd+j)⟩]) (fun j=>wd - j) 0 (fun j hj=>?_) (Nat.zero_le _)
    try dsimp only at hj ⊢
    by_cases hlj:j<wd
    · have hTg:T[B.length+i*wd+j]?=some (W[i] / 2 ^ (8*(wd - 1 - j))%256):=by
        rw[← hTT,List.getElem?_append_right (by omega),show B.length+i*wd+j - B.length=i*wd+j by omega]
        exact beL_get hlj hlt
      have h40:IntKind.i64.wrap (8*((wd:Int) - 1 - (j:Int)))=((8*(wd - 1 - j):Nat):Int):=by
        rw[show (8*((wd:Int) - 1 - (j:Int)))=((8*(wd - 1 - j):Nat):Int) by omega];exact i64_in (by omega) (by omega)
      repeat (first|refine Td ?_|(refine Tm ?_;intro _)|refine Tc ?_|exact Tz)
      refine WC.dT rfl (by omega) ?_
      repeat (first|refine Td ?_|(refine Tm ?_;intro _)|refine WO.does (does_mul rfl rfl h40) ?_|refine WO.does (does_shr rfl rfl (by omega) (shr_nat (by show 8*(wd - 1 - j)≤64;omega))) ?_|refine WO.does (does_conv rfl (u8_nat _)) ?_|(refine WO.makes (makes_build (cs:=[.int .u8 ((W[i] / 2 ^ (8*(wd - 1 - j))%256:Nat):Int)]) rfl (by decide) rfl) ?_;intro g2)|refine Tc ?_|exact Tz)
      refine WO.both (app_in (n:=1) (xs:=[.int .u8 ((W[i] / 2 ^ (8*(wd - 1 - j))%256:Nat):Int)]) rfl rfl (Rds.own (m:=1) Hs.here rfl) rfl (by omega) rfl (Rp.there Rp.here) (pad_over hTg) (by rw[pad_length (by omega)];omega) (by decide) rfl) ?_
      repeat (first|refine Td ?_|(refine Tm ?_;intro _)|refine Tc ?_|exact Tz)
      refine WX.metI (j+1) (hs:=⟨by show j+1≤wd;omega,by show wd - (j+1)<wd - j;omega⟩)
    · have:j=wd:=by omega
      subst this
      rw[show B.length+i*j+j=B.length+(i+1)*j by rw[Nat.succ_mul];omega]
      repeat (first|refine Td ?_|(refine Tm ?_;intro _)|refine Tc ?_|exact Tz)
      refine WC.dF rfl (by omega) ?_
      repeat (first|refine Td ?_|(refine Tm ?_;intro _)|refine Tc ?_|exact Tz)
      refine WX.metI (i+1) (hs:=⟨by show i+1≤W.length;omega,by show W.length - (i+1)<W.length - i;omega⟩)
  · have:i=W.length:=by omega
    subst this
    rw[← hT,pad_full]
    repeat (first|refine Td ?_|(refine Tm ?_;intro _)|refine Tc ?_|exact Tz)
    refine WC.dF rfl (by omega) ?_
    repeat (first|refine Td ?_|(refine Tm ?_;intro _)|refine Tc ?_|exact Tz)
    exact WX.retN
end Sx
end Go.Proofs.YtmhligfnchegdaaGreatDoor
namespace Go.Proofs.YtmhligfnchegdaaGreatDoor
open Go Go.RowKit
namespace Sx
attribute [local irreducible] wd DQ DQS WO WC WX
set_option maxHeartbeats 1000000 in
theorem c_Put (B:List Nat) (x wd c:Nat) (p:Option Addr) (h8:wd≤8) (hl:B.length≤549755813888) :
    Fn Tryz.prog 25 [.slice p B.length c,.int .u64 (x:Int),.int .i64 (wd:Int)] (fun w=>Rd (.slice p B.length c) B.length (byC B) w)
      (NewS 5 (B++be wd x).length (byC (B++be wd x))):=by
  have hb:beL wd [x]=be wd x:=by simp[beL]
  have hmax:(if (wd:Int) > 0 then (wd:Int) else 0)=(wd:Int):=by split<;>omega
  have hmin:(if (wd:Int)<8 then (wd:Int) else 8)=(wd:Int):=by split<;>omega
  have hP:=fun g=>c_put B [x] wd c 1 p g 0 h8 (by simp;omega) (by simp)
  rw[hb] at hP
  refine Fn.enter Tryz.func25 rfl rfl rfl ?_
  intro w hw
  repeat (first|refine Ta ?_|(refine Tm ?_;intro _)|refine WO.does (does_max rfl rfl hmax) ?_|refine WO.does (does_min rfl rfl hmin) ?_|(refine WO.makes (makes_build (cs:=[.int .u64 (x:Int)]) rfl (by decide) rfl) ?_;intro g2)|refine Tc ?_|exact Tz)
  refine WO.acallN (hc:=hP g2) (hR:=fun w1 hm=>⟨hw.rds.rd hm,Hs.here.seg hm⟩) (k:=fun g3=>?_)
  repeat (first|refine Ta ?_|(refine Tm ?_;intro _)|refine Tc ?_|exact Tz)
  exact WX.retN
def rvC (a b c d:Nat):Nat→List Value
  | 0=>[.int .u64 (a:Int),.int .u64 (b:Int),.int .u64 (c:Int),.int .u64 (d:Int)]
  | 1=>[.int .u64 (d:Int),.int .u64 (b:Int),.int .u64 (c:Int),.int .u64 (a:Int)]
  | _=>[.int .u64 (d:Int),.int .u64 (c:Int),.int .u64 (b:Int),.int .u64 (a:Int)]
def rvK (g:Nat):Nat→List (Nat × Value)
  | 0=>[(0,.slice (some ⟨g,0,none⟩) 4 4),(2,.int .i64 0),(3,.int .i64 3)]
  | 1=>[(0,.slice (some ⟨g,0,none⟩) 4 4),(2,.int .i64 1),(3,.int .i64 2)]
  | _=>[(0,.slice (some ⟨g,0,none⟩) 4 4),(2,.int .i64 2),(3,.int .i64 1)]
set_option maxHeartbeats 1000000 in
theorem c_Rev4 (g t a b c d:Nat) (ht:t≠0):FnM Tryz.prog 202 [.slice (some ⟨g,0,none⟩) 4 4] g t (rvC a b c d 0) (rvC a b c d 2) Tr (.tuple #[]):=by
  refine FnM.enter Tryz.func202 rfl rfl rfl ?_
  intro w hw
  simp only[rvC]
  repeat (first|refine Ta ?_|(refine Tm ?_;intro _)|refine Tc ?_|exact Tz)
  refine WC.loopI (σ:=Nat) (fun k=>k≤2) (rvK g) (fun k=>[⟨g,t,rvC a b c d k⟩]) (fun k=>2 - k) 0 (fun k hk=>?_) (by decide)
  match k,hk with
  | 0,_ =>
    simp only[rvK,rvC]
    repeat (first|refine Ta ?_|(refine Tm ?_;intro _)|refine Tc ?_|exact Tz)
    refine WC.adrawF [2,3] 13 (k:=?_)
    repeat (first|refine Da ?_|refine Df ?_)
    refine DQ.anil (k:=?_)
    intro sx _
    repeat (first|refine Ta ?_|(refine Tm ?_;intro _)|refine WO.stores (a_store (ht:=ht)) ?_|refine Tc ?_|exact Tz)
    exact WX.metI 1 (hs:=⟨by decide,by decide⟩)
  | 1,_ =>
    simp only[rvK,rvC]
    repeat (first|refine Ta ?_|(refine Tm ?_;intro _)|refine Tc ?_|exact Tz)
    refine WC.adrawF [2,3] 13 (k:=?_)
    repeat (first|refine Da ?_|refine Df ?_)
    refine DQ.anil (k:=?_)
    intro sx _
    repeat (first|refine Ta ?_|(refine Tm ?_;intro _)|refine WO.stores (a_store (ht:=ht)) ?_|refine Tc ?_|exact Tz)
    exact WX.metI 2 (hs:=⟨by decide,by decide⟩)
  | 2,_ =>
    simp only[rvK,rvC]
    repeat (first|refine Ta ?_|(refine Tm ?_;intro _)|refine Tc ?_|exact Tz)
    exact WX.retM_ofN (res0 rfl) Hs.here
end Sx
end Go.Proofs.YtmhligfnchegdaaGreatDoor
namespace Go.Proofs.YtmhligfnchegdaaGreatDoor
open Go Go.RowKit
namespace Sx
attribute [local irreducible] wd DQ DQS WO WC WX
set_option maxHeartbeats 1000000 in
theorem c_PutLong (B:List Nat) (x c:Nat) (p:Option Addr) (hl:B.length≤549755813888) :
    Fn Tryz.prog 115 [.slice p B.length c,numV x] (fun w=>Rd (.slice p B.length c) B.length (byC B) w) (NewS 5 (B++be 32 x).length (byC (B++be 32 x))):=by
  have hP:=fun g=>c_put B [wd 3 x,wd 2 x,wd 1 x,wd 0 x] 8 c 4 p g 0 (by omega) (by simp;omega) (by simp)
  rw[beL_num] at hP
  have hR:=fun g=>c_Rev4 g 24 (wd 0 x) (wd 1 x) (wd 2 x) (wd 3 x) (by decide)
  simp only[rvC] at hR
  refine Fn.enter Tryz.func115 rfl rfl rfl ?_
  intro w hw
  repeat (first|refine Td ?_|(refine Tm ?_;intro _)|refine Tc ?_|exact Tz)
  rename_i g3
  refine WO.does (does_sliceA rfl) ?_
  refine WO.callM (hc:=hR g3) rfl Rp.here (fun _ _=>trivial) (by decide) ?_ rfl rfl
  repeat (first|refine Td ?_|(refine Tm ?_;intro _)|refine WO.does (does_sliceA rfl) ?_|refine Tc ?_|exact Tz)
  refine WO.acallN (hc:=hP g3) (hR:=fun w1 hm=>⟨hw.rds.rd hm,Hs.here.seg hm⟩) (k:=fun g4=>?_)
  repeat (first|refine Td ?_|(refine Tm ?_;intro _)|refine Tc ?_|exact Tz)
  exact WX.retN
set_option maxHeartbeats 1000000 in
theorem c_Get (B:List Nat) (n c b o:Nat) (hB:∀ b∈B,b<256) (hn:8≤n) (hBn:n≤B.length) (hc:n≤c) (hc2:c<9223372036854775808) :
    Fn Tryz.prog 240 [.slice (some ⟨b,o,none⟩) n c,.int .i64 8] (fun w=>Seg w b o (byC B)) (Is (.tuple #[.int .u64 ((beV (B.take 8):Nat):Int),.int .i64 0])):=by
  refine Fn.enter Tryz.func240 rfl rfl rfl ?_
  intro w hw
  repeat (first|refine Td ?_|(refine Tm ?_;intro _)|refine Tc ?_|exact Tz)
  repeat (first|refine Td ?_|(refine Tm ?_;intro _)|refine WO.does (does_sliceTo (h:=8) rfl rfl (by omega)) ?_|refine Tc ?_|exact Tz)
  refine WC.loopI (σ:=Nat) (fun i=>i≤8) (fun i=>[(4,.int .u64 ((beV (B.take i):Nat):Int)),(22,.slice (some ⟨b,o,none⟩) 8 c),(23,.int .i64 8),(24,.int .i64 (i:Int))]) (fun _=>[]) (fun i=>8 - i) 0 (fun i hi=>?_) (Nat.zero_le _)
  try dsimp only at hi ⊢
  by_cases hlt:i<8
  · have hi2:i<B.length:=by omega
    have hget:(byC B)[o+i - o]?=some (.int .u8 ((B[i]:Nat):Int)):=by rw[Nat.add_sub_cancel_left];exact byC_get hi2
    have hb:B[i] < 256:=hB _ (List.getElem_mem hi2)
    have hv:beV (B.take i)<72057594037927936:=by
      have h1:=beV_lt (byte_take hB i)
      have h2:(B.take i).length≤7:=by rw[List.length_take];omega
      exact Nat.lt_of_lt_of_le h1 (Nat.pow_le_pow_right (n:=256) (by omega) h2)
    have hnext:beV (B.take i)*256+B[i]=beV (B.take (i+1)):=by rw[List.take_succ_eq_append_getElem hi2,beV_snoc]
    repeat (first|refine Td ?_|(refine Tm ?_;intro _)|refine Tc ?_|exact Tz)
    refine WC.dT rfl (by omega) ?_
    repeat (first|refine Td ?_|(refine Tm ?_;intro _)|refine WO.does (does_shl rfl rfl (by decide) (shl_byte hv)) ?_|refine WO.does (does_or rfl rfl (or_byte hv hb)) ?_|refine Tc ?_|exact Tz)
    rw[hnext]
    refine WX.metI (i+1) (hs:=⟨by show i+1≤8;omega,by show 8 - (i+1)<8 - i;omega⟩)
  · have hi8:i=8:=by omega
    have hv:beV (B.take i)=beV (B.take 8):=by rw[hi8]
    rw[hv]
    generalize beV (B.take 8)=V
    repeat (first|refine Td ?_|(refine Tm ?_;intro _)|refine Tc ?_|exact Tz)
    refine WC.dF rfl (by omega) ?_
    repeat (first|refine Td ?_|(refine Tm ?_;intro _)|refine Tc ?_|exact Tz)
end Sx
end Go.Proofs.YtmhligfnchegdaaGreatDoor
namespace Go.Proofs.YtmhligfnchegdaaGreatDoor
open Go Go.RowKit
namespace Sx
attribute [local irreducible] DQ DQS WO WC WX
def glC (d c b a:Nat):Nat→List Value
  | 0=>[.int .u64 0,.int .u64 0,.int .u64 0,.int .u64 0]
  | 1=>[.int .u64 0,.int .u64 0,.int .u64 0,.int .u64 (d:Int)]
  | 2=>[.int .u64 0,.int .u64 0,.int .u64 (c:Int),.int .u64 (d:Int)]
  | 3=>[.int .u64 0,.int .u64 (b:Int),.int .u64 (c:Int),.int .u64 (d:Int)]
  | _=>[.int .u64 (a:Int),.int .u64 (b:Int),.int .u64 (c:Int),.int .u64 (d:Int)]
def glK (g:Nat) (s:Value):Nat→List (Nat × Value)
  | 0=>[(0,s),(2,pt g),(9,.int .i64 0)]
  | 1=>[(0,s),(2,pt g),(9,.int .i64 1)]
  | 2=>[(0,s),(2,pt g),(9,.int .i64 2)]
  | 3=>[(0,s),(2,pt g),(9,.int .i64 3)]
  | _=>[(0,s),(2,pt g),(9,.int .i64 4)]
set_option maxHeartbeats 1000000 in
theorem c_GetLong (B:List Nat) (b o:Nat) (hB:∀ b∈B,b<256) (hl:B.length=32) :
    Fn Tryz.prog 206 [.slice (some ⟨b,o,none⟩) 32 32] (fun w=>Seg w b o (byC B)) (Is (.tuple #[numV (beV B),.int .i64 0])):=by
  have hG:=fun l (h:l≤24)=>c_Get (B.drop l) (32 - l) (32 - l) b (o+l) (byte_drop hB l) (by omega) (by rw[List.length_drop];omega) (by omega) (by omega)
  have hS:=fun l (w:World) (h:Seg w b o (byC B))=>h.sub (k:=l) (m:=32) (vs:=byC (B.drop l)) (by rw[cut,byC_drop,List.take_of_length_le];rw[byC_length,List.length_drop];omega)
  have hend:Value.agg #[.int .u64 ((beV ((B.drop 24).take 8):Nat):Int),.int .u64 ((beV ((B.drop 16).take 8):Nat):Int),.int .u64 ((beV ((B.drop 8).take 8):Nat):Int),.int .u64 ((beV ((B.drop 0).take 8):Nat):Int)]=numV (beV B):=by
    rw[numV_of (beV_lt8 (byte_drop hB _) 0) (beV_lt8 (byte_drop hB _) 0) (beV_lt8 (byte_drop hB _) 0) (beV_lt8 (byte_drop hB _) 0),beV_words hl]
  have h0:=hG 0 (by decide)
  have h1:=hG 8 (by decide)
  have h2:=hG 16 (by decide)
  have h3:=hG 24 (by decide)
  rw[← hend]
  clear hend hG
  generalize beV ((B.drop 0).take 8)=d0 at *
  generalize beV ((B.drop 8).take 8)=d1 at *
  generalize beV ((B.drop 16).take 8)=d2 at *
  generalize beV ((B.drop 24).take 8)=d3 at *
  simp only[Nat.reduceSub] at h0 h1 h2 h3
  refine Fn.enter Tryz.func206 rfl rfl rfl ?_
  intro w hw
  have hw0:=hS 0 w hw
  have hw1:=hS 8 w hw
  have hw2:=hS 16 w hw
  have hw3:=hS 24 w hw
  clear hS
  repeat (first|refine Ta ?_|(refine Tm ?_;intro _)|refine Tc ?_|exact Tz)
  rename_i g
  refine WC.loopI (σ:=Nat) (fun k=>k≤4) (glK g (.slice (some ⟨b,o,none⟩) 32 32)) (fun k=>[⟨g,24,glC d0 d1 d2 d3 k⟩]) (fun k=>4 - k) 0 (fun k hk=>?_) (by decide)
  match k,hk with
  | 0,_ =>
    simp only[glK,glC]
    repeat (first|refine Ta ?_|(refine Tm ?_;intro _)|refine WO.does (does_sliceFrom (l:=0) rfl rfl (by decide) (by decide) rfl) ?_|refine WO.acallR (hc:=h0) (hR:=fun w' hm=>hw0.mod hm.mod (by simp)) (k:=?_)|refine Tc ?_|exact Tz)
    exact WX.metI 1 (hs:=⟨by decide,by decide⟩)
  | 1,_ =>
    simp only[glK,glC]
    repeat (first|refine Ta ?_|(refine Tm ?_;intro _)|refine WO.does (does_sliceFrom (l:=8) rfl rfl (by decide) (by decide) rfl) ?_|refine WO.acallR (hc:=h1) (hR:=fun w' hm=>hw1.mod hm.mod (by simp)) (k:=?_)|refine Tc ?_|exact Tz)
    exact WX.metI 2 (hs:=⟨by decide,by decide⟩)
  | 2,_ =>
    simp only[glK,glC]
    repeat (first|refine Ta ?_|(refine Tm ?_;intro _)|refine WO.does (does_sliceFrom (l:=16) rfl rfl (by decide) (by decide) rfl) ?_|refine WO.acallR (hc:=h2) (hR:=fun w' hm=>hw2.mod hm.mod (by simp)) (k:=?_)|refine Tc ?_|exact Tz)
    exact WX.metI 3 (hs:=⟨by decide,by decide⟩)
  | 3,_ =>
    simp only[glK,glC]
    repeat (first|refine Ta ?_|(refine Tm ?_;intro _)|refine WO.does (does_sliceFrom (l:=24) rfl rfl (by decide) (by decide) rfl) ?_|refine WO.acallR (hc:=h3) (hR:=fun w' hm=>hw3.mod hm.mod (by simp)) (k:=?_)|refine Tc ?_|exact Tz)
    exact WX.metI 4 (hs:=⟨by decide,by decide⟩)
  | 4,_ =>
    simp only[glK,glC]
    repeat (first|refine Ta ?_|(refine Tm ?_;intro _)|refine Tc ?_|exact Tz)
end Sx
end Go.Proofs.YtmhligfnchegdaaGreatDoor
