/- Part 26 of the proof: RfT -/
import Derived.Test.YtmhligfnchegdaaGreatDoorM25
set_option linter.unusedSimpArgs false
set_option linter.unusedVariables false
namespace Go.Proofs.YtmhligfnchegdaaGreatDoor
open Go Go.RowKit Go.BigFrame
namespace Sx
attribute [local irreducible] wd DQ DQS WO WC WX
set_option maxHeartbeats 4000000 in
theorem r_block (s0 s1 s2 s3 s4 s5 s6 s7:Nat) (b:List Nat) (bb ob cb bk:Nat) (hb:∀ x∈b,x<256) (hbl:b.length=64) (hs:∀ x∈[s0,s1,s2,s3,s4,s5,s6,s7],x<4294967296) :
    Fn Tryz.prog 215 [.agg (w3C [s0,s1,s2,s3,s4,s5,s6,s7]).toArray,.slice (some ⟨bb,ob,none⟩) 64 cb,.slice (some ⟨bk,0,none⟩) 64 64] (fun w=>Seg w bb ob (byC b)∧Seg w bk 0 (w3C Sha.K)) (Is (.agg (w3C (Sha.take [s0,s1,s2,s3,s4,s5,s6,s7] b)).toArray)):=by
  generalize hS:[s0,s1,s2,s3,s4,s5,s6,s7]=S at *
  have hS8:S.length=8:=by rw[← hS];rfl
  refine Fn.enter Tryz.func215 rfl rfl rfl ?_
  intro w hw
  obtain⟨hwb,hwk⟩:=hw
  repeat (first|refine Ta ?_|(refine Tm ?_;intro _)|refine Tc ?_|exact Tz)
  rename_i g3 g6 g7
  refine WC.loopI (σ:=Nat) (fun i=>i≤16) (fun i=>[(1,.slice (some ⟨bb,ob,none⟩) 64 cb),(2,.slice (some ⟨bk,0,none⟩) 64 64),(3,pt g3),(6,pt g6),(7,pt g7),(8,.int .i64 (i:Int))])
    (fun i=>[⟨g3,258,w3C S⟩,⟨g6,258,w3C [0,0,0,0,0,0,0,0]⟩,⟨g7,305,wpad (Sha.words b i) 64⟩]) (fun i=>16 - i) 0 (fun i hi=>?_) (Nat.zero_le _)
  try dsimp only at hi ⊢
  by_cases hlt:i<16
  · have hwl:=words_length b i
    have hwords:Sha.words b (i+1)=Sha.words b i++[if i<16 then Sha.w16 b i else Sha.wnext (Sha.words b i) i]:=rfl
    rw[if_pos hlt] at hwords
    have hm4:IntKind.i64.wrap (4*(i:Int))=((4*i:Nat):Int):=i64_in' (by omega) (by omega) (by omega)
    have ha1:IntKind.i64.wrap (((4*i:Nat):Int)+1)=((4*i+1:Nat):Int):=i64_in' (by omega) (by omega) (by omega)
    have ha2:IntKind.i64.wrap (((4*i:Nat):Int)+2)=((4*i+2:Nat):Int):=i64_in' (by omega) (by omega) (by omega)
    have ha3:IntKind.i64.wrap (((4*i:Nat):Int)+3)=((4*i+3:Nat):Int):=i64_in' (by omega) (by omega) (by omega)
    have hbF:∀ j,j<64→(byC b)[ob+j - ob]?=some (.int .u8 ((b.getD j 0:Nat):Int)):=fun j hj=>by rw[Nat.add_sub_cancel_left];exact byC_getD (by omega)
    have hb0:=hbF (4*i) (by omega)
    have hb1:=hbF (4*i+1) (by omega)
    have hb2:=hbF (4*i+2) (by omega)
    have hb3:=hbF (4*i+3) (by omega)
    clear hbF
    have hl0:=getD_lt hb (by omega) (4*i)
    have hl1:=getD_lt hb (by omega) (4*i+1)
    have hl2:=getD_lt hb (by omega) (4*i+2)
    have hl3:=getD_lt hb (by omega) (4*i+3)
    have hw16:Sha.w16 b i=b.getD (4*i) 0*16777216+b.getD (4*i+1) 0*65536+b.getD (4*i+2) 0*256+b.getD (4*i+3) 0:=rfl
    rw[hw16] at hwords
    generalize b.getD (4*i) 0=b0 at *
    generalize b.getD (4*i+1) 0=b1 at *
    generalize b.getD (4*i+2) 0=b2 at *
    generalize b.getD (4*i+3) 0=b3 at *
    have hc0:IntKind.u32.wrap ((b0:Nat):Int)=((b0:Nat):Int):=u32_in (by omega) (by omega)
    have hc1:IntKind.u32.wrap ((b1:Nat):Int)=((b1:Nat):Int):=u32_in (by omega) (by omega)
    have hc2:IntKind.u32.wrap ((b2:Nat):Int)=((b2:Nat):Int):=u32_in (by omega) (by omega)
    have hc3:IntKind.u32.wrap ((b3:Nat):Int)=((b3:Nat):Int):=u32_in (by omega) (by omega)
    have hs0:=e_shl b0 24 24 rfl (by omega)
    have hs1:=e_shl b1 16 16 rfl (by omega)
    have hs2:=e_shl b2 8 8 rfl (by omega)
    rw[show b0*2 ^ 24%4294967296=b0*16777216 by omega] at hs0
    rw[show b1*2 ^ 16%4294967296=b1*65536 by omega] at hs1
    rw[show b2*2 ^ 8%4294967296=b2*256 by omega] at hs2
    have ho1:=e_or (a:=b0*16777216) (b:=b1*65536) (by omega) (by omega)
    have ho1l:=or_lt (a:=b0*16777216) (b:=b1*65536) (by omega) (by omega)
    have ho2:=e_or (b:=b2*256) ho1l (by omega)
    have ho2l:=or_lt (b:=b2*256) ho1l (by omega)
    have ho3:=e_or (b:=b3) ho2l (by omega)
    rw[or3_w16 b0 b1 b2 b3 hl1 hl2 hl3] at ho3
    have hov:=wpad_over (l:=Sha.words b i) (n:=64) (x:=b0*16777216+b1*65536+b2*256+b3) (by omega)
    rw[hwl,← hwords] at hov
    repeat (first|refine Ta ?_|(refine Tm ?_;intro _)|refine Tc ?_|exact Tz)
    refine WC.dT rfl (by omega) ?_
    repeat (first|refine Ta ?_|(refine Tm ?_;intro _)|refine Tc ?_|exact Tz)
    refine WC.adraw 35 (k:=?_)
    repeat (first|refine Da ?_|refine DQ.does (fun s _=>does_mul rfl rfl hm4) Dp.const ?_|refine DQ.does (fun s _=>does_add rfl rfl ha1) Dp.const ?_|refine DQ.does (fun s _=>does_add rfl rfl ha2) Dp.const ?_|refine DQ.does (fun s _=>does_add rfl rfl ha3) Dp.const ?_|refine DQ.does (fun s _=>a_loadF1 (hs:=hwb) (hc:=hb0)) Dp.const ?_|refine DQ.does (fun s _=>a_loadF1 (hs:=hwb) (hc:=hb1)) Dp.const ?_|refine DQ.does (fun s _=>a_loadF1 (hs:=hwb) (hc:=hb2)) Dp.const ?_|refine DQ.does (fun s _=>a_loadF1 (hs:=hwb) (hc:=hb3)) Dp.const ?_|refine DQ.does (fun s _=>does_conv rfl hc0) Dp.const ?_|refine DQ.does (fun s _=>does_conv rfl hc1) Dp.const ?_|refine DQ.does (fun s _=>does_conv rfl hc2) Dp.const ?_|refine DQ.does (fun s _=>does_conv rfl hc3) Dp.const ?_|refine DQ.does (fun s _=>h_shl rfl rfl hs0 (by decide)) Dp.const ?_|refine DQ.does (fun s _=>h_shl rfl rfl hs1 (by decide)) Dp.const ?_|refine DQ.does (fun s _=>h_shl rfl rfl hs2 (by decide)) Dp.const ?_|refine DQ.does (fun s _=>h_or rfl rfl ho1) Dp.const ?_|refine DQ.does (fun s _=>h_or rfl rfl ho2) Dp.const ?_|refine DQ.does (fun s _=>h_or rfl rfl ho3) Dp.const ?_|refine Dc ?_)
    refine DQ.anil (k:=?_)
    intro sx _
    repeat (first|refine Ta ?_|(refine Tm ?_;intro _)|refine WO.stores (a_store (hc:=hov) (hle:=by rw[wpad_length (by omega)];simp;omega)) ?_|refine Tc ?_|exact Tz)
    refine WX.metI (i+1) (hs:=⟨by show i+1≤16;omega,by show 16 - (i+1)<16 - i;omega⟩)
  · have hi16:i=16:=by omega
    rw[show Sha.words b i=Sha.words b 16 by rw[hi16]]
    repeat (first|refine Ta ?_|(refine Tm ?_;intro _)|refine Tc ?_|exact Tz)
    refine WC.dF rfl (by omega) ?_
    repeat (first|refine Ta ?_|(refine Tm ?_;intro _)|refine Tc ?_|exact Tz)
    clear hlt hi hi16 hwb
    refine WC.loopI (σ:=Nat) (fun i=>16≤i∧i≤64) (fun i=>[(2,.slice (some ⟨bk,0,none⟩) 64 64),(3,pt g3),(6,pt g6),(7,pt g7),(9,.int .i64 (i:Int))])
      (fun i=>[⟨g3,258,w3C S⟩,⟨g6,258,w3C [0,0,0,0,0,0,0,0]⟩,⟨g7,305,wpad (Sha.words b i) 64⟩]) (fun i=>64 - i) 16 (fun i hi=>?_) (by decide)
    try dsimp only at hi ⊢
    obtain⟨hi1,hi⟩:=hi
    by_cases hlt:i<64
    · have hwl:=words_length b i
      have hwords:Sha.words b (i+1)=Sha.words b i++[if i<16 then Sha.w16 b i else Sha.wnext (Sha.words b i) i]:=rfl
      rw[if_neg (by omega)] at hwords
      have hc15:IntKind.i64.wrap ((i:Int) - 15)=((i - 15:Nat):Int):=i64_in' (by omega) (by omega) (by omega)
      have hc2:IntKind.i64.wrap ((i:Int) - 2)=((i - 2:Nat):Int):=i64_in' (by omega) (by omega) (by omega)
      have hc16:IntKind.i64.wrap ((i:Int) - 16)=((i - 16:Nat):Int):=i64_in' (by omega) (by omega) (by omega)
      have hc7:IntKind.i64.wrap ((i:Int) - 7)=((i - 7:Nat):Int):=i64_in' (by omega) (by omega) (by omega)
      have hwlt:=words_lt hb i
      have hx15:=wpad_get (n:=64) (getD_get (l:=Sha.words b i) (i:=i - 15) (by omega))
      have hx2:=wpad_get (n:=64) (getD_get (l:=Sha.words b i) (i:=i - 2) (by omega))
      have hx16:=wpad_get (n:=64) (getD_get (l:=Sha.words b i) (i:=i - 16) (by omega))
      have hx7:=wpad_get (n:=64) (getD_get (l:=Sha.words b i) (i:=i - 7) (by omega))
      have hl15:=getD_lt hwlt (by omega) (i - 15)
      have hl2:=getD_lt hwlt (by omega) (i - 2)
      have hwn:Sha.wnext (Sha.words b i) i=((Sha.words b i).getD (i - 16) 0+(Sha.words b i).getD (i - 7) 0+Sha.sig0 ((Sha.words b i).getD (i - 15) 0)+Sha.sig1 ((Sha.words b i).getD (i - 2) 0))%4294967296:=rfl
      rw[hwn] at hwords
      generalize (Sha.words b i).getD (i - 15) 0=x15 at *
      generalize (Sha.words b i).getD (i - 2) 0=x2 at *
      generalize (Sha.words b i).getD (i - 16) 0=x16 at *
      generalize (Sha.words b i).getD (i - 7) 0=x7 at *
      have hr1:=r_round x15 7 hl15 (by decide)
      have hr2:=r_round x15 18 hl15 (by decide)
      have hr3:=r_round x2 17 hl2 (by decide)
      have hr4:=r_round x2 19 hl2 (by decide)
      have hxa:=e_xor (rotr_lt (n:=7) hl15) (rotr_lt (n:=18) hl15)
      have hxb:=e_xor (rotr_lt (n:=17) hl2) (rotr_lt (n:=19) hl2)
      have hq1:=e_add x16 x7
      have hq2:=e_shr x15 3 3 rfl (by omega)
      have hq3:=e_xor (xor_lt (rotr_lt (n:=7) hl15) (rotr_lt (n:=18) hl15)) (Nat.lt_of_le_of_lt (Nat.div_le_self x15 (2 ^ 3)) hl15)
      rw[show Sha.rotr 7 x15 ^^^ Sha.rotr 18 x15 ^^^ x15 / 2 ^ 3=Sha.sig0 x15 from rfl] at hq3
      have hq4:=e_add ((x16+x7)%4294967296) (Sha.sig0 x15)
      have hq5:=e_shr x2 10 10 rfl (by omega)
      have hq6:=e_xor (xor_lt (rotr_lt (n:=17) hl2) (rotr_lt (n:=19) hl2)) (Nat.lt_of_le_of_lt (Nat.div_le_self x2 (2 ^ 10)) hl2)
      rw[show Sha.rotr 17 x2 ^^^ Sha.rotr 19 x2 ^^^ x2 / 2 ^ 10=Sha.sig1 x2 from rfl] at hq6
      have hq7:=e_add (((x16+x7)%4294967296+Sha.sig0 x15)%4294967296) (Sha.sig1 x2)
      rw[show ((((x16+x7)%4294967296+Sha.sig0 x15)%4294967296)+Sha.sig1 x2)%4294967296=(x16+x7+Sha.sig0 x15+Sha.sig1 x2)%4294967296 by omega] at hq7
      have hov:=wpad_over (l:=Sha.words b i) (n:=64) (x:=(x16+x7+Sha.sig0 x15+Sha.sig1 x2)%4294967296) (by omega)
      rw[hwl,← hwords] at hov
      generalize Sha.sig0 x15=S0 at *
      generalize Sha.sig1 x2=S1 at *
      generalize Sha.rotr 7 x15=R7 at *
      generalize Sha.rotr 18 x15=R18 at *
      generalize Sha.rotr 17 x2=R17 at *
      generalize Sha.rotr 19 x2=R19 at *
      repeat (first|refine Ta ?_|(refine Tm ?_;intro _)|refine Tc ?_|exact Tz)
      refine WC.dT rfl (by omega) ?_
      repeat (first|refine Ta ?_|(refine Tm ?_;intro _)|refine WO.does (does_sub rfl rfl hc15) ?_|refine WO.does (does_sub rfl rfl hc2) ?_|refine WO.does (a_load1 (hc:=hx15)) ?_|refine WO.does (a_load1 (hc:=hx2)) ?_|refine Tc ?_|exact Tz)
      refine WC.adraw 29 (k:=?_)
      repeat (first|refine Da ?_|refine DQ.does (fun s _=>does_sub rfl rfl hc16) Dp.const ?_|refine DQ.does (fun s _=>does_sub rfl rfl hc7) Dp.const ?_|refine DQ.does (fun s _=>a_load1 (hc:=hx16)) Dp.const ?_|refine DQ.does (fun s _=>a_load1 (hc:=hx7)) Dp.const ?_|refine DQ.does (fun s _=>h_add rfl rfl hq1) Dp.const ?_|refine DQ.does (fun s _=>h_add rfl rfl hq4) Dp.const ?_|refine DQ.does (fun s _=>h_add rfl rfl hq7) Dp.const ?_|refine DQ.does (fun s _=>h_shr rfl rfl hq2 (by decide)) Dp.const ?_|refine DQ.does (fun s _=>h_shr rfl rfl hq5 (by decide)) Dp.const ?_|refine DQ.does (fun s _=>h_xor rfl rfl hxa) Dp.const ?_|refine DQ.does (fun s _=>h_xor rfl rfl hxb) Dp.const ?_|refine DQ.does (fun s _=>h_xor rfl rfl hq3) Dp.const ?_|refine DQ.does (fun s _=>h_xor rfl rfl hq6) Dp.const ?_|refine DQ.acall (hc:=hr1) (k:=?_)|refine DQ.acall (hc:=hr2) (k:=?_)|refine DQ.acall (hc:=hr3) (k:=?_)|refine DQ.acall (hc:=hr4) (k:=?_)|refine Dc ?_)
      refine DQ.anil (k:=?_)
      intro sx _
      repeat (first|refine Ta ?_|(refine Tm ?_;intro _)|refine WO.stores (a_store (hc:=hov) (hle:=by rw[wpad_length (by omega)];simp;omega)) ?_|refine Tc ?_|exact Tz)
      refine WX.metI (i+1) (hs:=⟨⟨by show 16≤i+1;omega,by show i+1≤64;omega⟩,by show 64 - (i+1)<64 - i;omega⟩)
    · have hi64:i=64:=by omega
      have hWl:=words_length b 64
      have hWlt:=words_lt hb 64
      have hwp:wpad (Sha.words b 64) 64=w3C (Sha.words b 64):=by unfold wpad;rw[hWl];simp
      have htk:Sha.take S b=Sha.addW (Sha.rnds S (Sha.words b 64) 64) S:=rfl
      rw[show Sha.words b i=Sha.words b 64 by rw[hi64],hwp,htk]
      generalize Sha.words b 64=W at *
      have hcut:cut (w3C S) 0 8=w3C S:=by unfold cut;rw[List.drop_zero,List.take_of_length_le (by rw[w3C_length,hS8];omega)]
      have hov8:over [.int .u32 0,.int .u32 0,.int .u32 0,.int .u32 0,.int .u32 0,.int .u32 0,.int .u32 0,.int .u32 0] 0 (w3C S)=w3C S:=by simp[over,w3C_length,hS8]
      repeat (first|refine Ta ?_|(refine Tm ?_;intro _)|refine Tc ?_|exact Tz)
      refine WC.dF rfl (by omega) ?_
      repeat (first|refine Ta ?_|(refine Tm ?_;intro _)|refine WO.does (a_load (vs:=w3C S) (hc:=hcut) (hl:=by rw[w3C_length,hS8])) ?_|refine WO.stores (a_store (vs:=w3C S) (hl:=by rw[w3C_length,hS8]) (h1:=w3C_one S) (hc:=hov8) (hle:=by rw[w3C_length,hS8];rfl)) ?_|refine Tc ?_|exact Tz)
      clear hlt hi hi64 hi1
      rename_i g12
      refine WC.loopI (σ:=Nat) (fun i=>i≤64) (fun i=>[(2,.slice (some ⟨bk,0,none⟩) 64 64),(3,pt g3),(6,pt g6),(7,pt g7),(12,pt g12),(13,.int .i64 (i:Int))])
        (fun i=>[⟨g3,258,w3C S⟩,⟨g6,258,w3C [0,0,0,0,0,0,0,0]⟩,⟨g7,305,w3C W⟩,⟨g12,258,w3C (Sha.rnds S W i)⟩]) (fun i=>64 - i) 0 (fun i hi=>?_) (Nat.zero_le _)
      try dsimp only at hi ⊢
      by_cases hlt:i<64
      · have hr8:=rnds_eight (w:=W) hS8 i
        have hrl:=rnds_lt (w:=W) hs hS8 i
        have hnext:Sha.rnds S W (i+1)=Sha.rnd (Sha.rnds S W i) (Sha.K.getD i 0) (W.getD i 0):=rfl
        have hk:=w3C_get (getD_get (l:=Sha.K) (i:=i) (by show i<64;exact hlt))
        have hk' : (w3C Sha.K)[i - 0]?=some (.int .u32 ((Sha.K.getD i 0:Nat):Int)):=hk
        have hw0:=w3C_get (getD_get (l:=W) (i:=i) (by omega))
        obtain⟨a,bb',c,d,e,f,g,h,hr⟩:=eight hr8
        rw[hr] at hnext hrl
        have hla:a<4294967296:=hrl a (by simp)
        have hlb:bb' < 4294967296:=hrl bb' (by simp)
        have hlc:c<4294967296:=hrl c (by simp)
        have hle:e<4294967296:=hrl e (by simp)
        have hlf:f<4294967296:=hrl f (by simp)
        have hlg:g<4294967296:=hrl g (by simp)
        clear hrl hk
        generalize Sha.K.getD i 0=k at *
        generalize W.getD i 0=x at *
        have hr1:=r_round e 6 hle (by decide)
        have hr2:=r_round e 11 hle (by decide)
        have hr3:=r_round e 25 hle (by decide)
        have hr4:=r_round a 2 hla (by decide)
        have hr5:=r_round a 13 hla (by decide)
        have hr6:=r_round a 22 hla (by decide)
        have hxa:=e_xor (rotr_lt (n:=6) hle) (rotr_lt (n:=11) hle)
        have hxb:=e_xor (xor_lt (rotr_lt (n:=6) hle) (rotr_lt (n:=11) hle)) (rotr_lt (n:=25) hle)
        rw[show Sha.rotr 6 e ^^^ Sha.rotr 11 e ^^^ Sha.rotr 25 e=Sha.Sig1 e from rfl] at hxb
        have hxc:=e_xor (rotr_lt (n:=2) hla) (rotr_lt (n:=13) hla)
        have hxd:=e_xor (xor_lt (rotr_lt (n:=2) hla) (rotr_lt (n:=13) hla)) (rotr_lt (n:=22) hla)
        rw[show Sha.rotr 2 a ^^^ Sha.rotr 13 a ^^^ Sha.rotr 22 a=Sha.Sig0 a from rfl] at hxd
        have hq1:=e_add h (Sha.Sig1 e)
        have hq2:=e_and hle hlf
        have hnl:=not_lt hle
        have hq3:=e_and hnl hlg
        have hq4:=e_xor (and_lt (b:=f) hle) (and_lt (b:=g) hnl)
        rw[ch_alt hlg] at hq4
        have hq5:=e_add ((h+Sha.Sig1 e)%4294967296) (Sha.ch e f g)
        have hq6:=e_add (((h+Sha.Sig1 e)%4294967296+Sha.ch e f g)%4294967296) k
        have hq7:=e_add ((((h+Sha.Sig1 e)%4294967296+Sha.ch e f g)%4294967296+k)%4294967296) x
        rw[show (((((h+Sha.Sig1 e)%4294967296+Sha.ch e f g)%4294967296+k)%4294967296)+x)%4294967296=(h+Sha.Sig1 e+Sha.ch e f g+k+x)%4294967296 by omega] at hq7
        have hst:Sha.rnd [a,bb',c,d,e,f,g,h] k x=[((h+Sha.Sig1 e+Sha.ch e f g+k+x)%4294967296+Sha.Sig0 a+Sha.maj a bb' c)%4294967296,a,bb',c,(d+(h+Sha.Sig1 e+Sha.ch e f g+k+x)%4294967296)%4294967296,e,f,g]:=rfl
        rw[hst] at hnext
        generalize (h+Sha.Sig1 e+Sha.ch e f g+k+x)%4294967296=T at *
        have hp2:=e_and hla hlb
        have hp3:=e_and hla hlc
        have hp4:=e_or (and_lt (b:=bb') hla) (and_lt (b:=c) hla)
        have hp5:=e_and hlb hlc
        have hp6:=e_or (or_lt (and_lt (b:=bb') hla) (and_lt (b:=c) hla)) (and_lt (b:=c) hlb)
        rw[maj_alt] at hp6
        have hp1:=e_add (Sha.Sig0 a) (Sha.maj a bb' c)
        have hp7:=e_add T ((Sha.Sig0 a+Sha.maj a bb' c)%4294967296)
        rw[show (T+(Sha.Sig0 a+Sha.maj a bb' c)%4294967296)%4294967296=(T+Sha.Sig0 a+Sha.maj a bb' c)%4294967296 by omega] at hp7
        have hp8:=e_add d T
        have hov:over [.int .u32 (a:Int),.int .u32 (bb' : Int),.int .u32 (c:Int),.int .u32 (d:Int),.int .u32 (e:Int),.int .u32 (f:Int),.int .u32 (g:Int),.int .u32 (h:Int)] 0 (w3C [(T+Sha.Sig0 a+Sha.maj a bb' c)%4294967296,a,bb',c,(d+T)%4294967296,e,f,g])=w3C (Sha.rnds S W (i+1)):=by rw[hnext];rfl
        rw[hr,show w3C [a,bb',c,d,e,f,g,h]=[.int .u32 (a:Int),.int .u32 (bb' : Int),.int .u32 (c:Int),.int .u32 (d:Int),.int .u32 (e:Int),.int .u32 (f:Int),.int .u32 (g:Int),.int .u32 (h:Int)] from rfl]
        generalize Sha.Sig1 e=Z1 at *
        generalize Sha.Sig0 a=Z0 at *
        generalize Sha.ch e f g=Z2 at *
        generalize Sha.maj a bb' c=Z3 at *
        generalize Sha.rotr 6 e=R6 at *
        generalize Sha.rotr 11 e=R11 at *
        generalize Sha.rotr 25 e=R25 at *
        generalize Sha.rotr 2 a=R2 at *
        generalize Sha.rotr 13 a=R13 at *
        generalize Sha.rotr 22 a=R22 at *
        repeat (first|refine Ta ?_|(refine Tm ?_;intro _)|refine Tc ?_|exact Tz)
        refine WC.dT rfl (by omega) ?_
        repeat (first|refine Ta ?_|(refine Tm ?_;intro _)|refine Tc ?_|exact Tz)
        refine WC.adraw 32 (k:=?_)
        repeat (first|refine Da ?_|refine DQ.does (fun s _=>h_add rfl rfl hq1) Dp.const ?_|refine DQ.does (fun s _=>h_add rfl rfl hq5) Dp.const ?_|refine DQ.does (fun s _=>h_add rfl rfl hq6) Dp.const ?_|refine DQ.does (fun s _=>h_add rfl rfl hq7) Dp.const ?_|refine DQ.does (fun s _=>h_xor rfl rfl hxa) Dp.const ?_|refine DQ.does (fun s _=>h_xor rfl rfl hxb) Dp.const ?_|refine DQ.does (fun s _=>h_and rfl rfl hq2) Dp.const ?_|refine DQ.does (fun s _=>h_and rfl rfl hq3) Dp.const ?_|refine DQ.does (fun s _=>h_xor rfl rfl hq4) Dp.const ?_|refine DQ.does (fun s _=>does_notX rfl hle) Dp.const ?_|refine DQ.does (fun s _=>a_loadF1 (hs:=hwk) (hc:=hk')) Dp.const ?_|refine DQ.does (fun s _=>a_load1 (hc:=hw0)) Dp.const ?_|refine DQ.acall (hc:=hr1) (k:=?_)|refine DQ.acall (hc:=hr2) (k:=?_)|refine DQ.acall (hc:=hr3) (k:=?_)|refine Dc ?_)
        refine DQ.anil (k:=?_)
        intro sx _
        repeat (first|refine Ta ?_|(refine Tm ?_;intro _)|refine Tc ?_|exact Tz)
        refine WC.adraw 25 (k:=?_)
        repeat (first|refine Da ?_|refine DQ.does (fun s _=>h_add rfl rfl hp1) Dp.const ?_|refine DQ.does (fun s _=>h_xor rfl rfl hxc) Dp.const ?_|refine DQ.does (fun s _=>h_xor rfl rfl hxd) Dp.const ?_|refine DQ.does (fun s _=>h_and rfl rfl hp2) Dp.const ?_|refine DQ.does (fun s _=>h_and rfl rfl hp3) Dp.const ?_|refine DQ.does (fun s _=>h_and rfl rfl hp5) Dp.const ?_|refine DQ.does (fun s _=>h_or rfl rfl hp4) Dp.const ?_|refine DQ.does (fun s _=>h_or rfl rfl hp6) Dp.const ?_|refine DQ.acall (hc:=hr4) (k:=?_)|refine DQ.acall (hc:=hr5) (k:=?_)|refine DQ.acall (hc:=hr6) (k:=?_)|refine Dc ?_)
        refine DQ.anil (k:=?_)
        intro sx _
        repeat (first|refine WO.stores (a_store (vs:=w3C [(T+Z0+Z3)%4294967296,a,bb',c,(d+T)%4294967296,e,f,g]) (hc:=hov)) ?_|refine Ta ?_|(refine Tm ?_;intro _)|refine WO.does (h_add rfl rfl hp7) ?_|refine WO.does (h_add rfl rfl hp8) ?_|refine WO.does (does_buildA (cs:=w3C [(T+Z0+Z3)%4294967296,a,bb',c,(d+T)%4294967296,e,f,g]) rfl rfl rfl) ?_|refine Tc ?_|exact Tz)
        refine WX.metI (i+1) (hs:=⟨by show i+1≤64;omega,by show 64 - (i+1)<64 - i;omega⟩)
      · have hi64:i=64:=by omega
        have hR8:=rnds_eight (w:=W) hS8 64
        rw[show Sha.rnds S W i=Sha.rnds S W 64 by rw[hi64]]
        generalize Sha.rnds S W 64=R at *
        have hRS:R.length=S.length:=by omega
        have hR0:w3C R=w3C (mxW R S 0):=by simp[mxW]
        rw[hR0]
        repeat (first|refine Ta ?_|(refine Tm ?_;intro _)|refine Tc ?_|exact Tz)
        refine WC.dF rfl (by omega) ?_
        repeat (first|refine Ta ?_|(refine Tm ?_;intro _)|refine Tc ?_|exact Tz)
        clear hlt hi hi64
        refine WC.loopI (σ:=Nat) (fun i=>i≤8) (fun i=>[(3,pt g3),(6,pt g6),(12,pt g12),(18,.int .i64 (i:Int))])
          (fun i=>[⟨g3,258,w3C S⟩,⟨g6,258,w3C [0,0,0,0,0,0,0,0]⟩,⟨g12,258,w3C (mxW R S i)⟩]) (fun i=>8 - i) 0 (fun i hi=>?_) (Nat.zero_le _)
        try dsimp only at hi ⊢
        by_cases hlt:i<8
        · have h1:=mxW_get hRS (i:=i) (by omega)
          have h2:=w3C_get (getD_get (l:=S) (i:=i) (by omega))
          have h3:=e_add (R.getD i 0) (S.getD i 0)
          have hov:=mxW_over hRS (i:=i) (by omega)
          have hml:(mxW R S i).length=8:=by unfold mxW;rw[List.length_append,List.length_take,List.length_drop,addW_length hRS];omega
          generalize R.getD i 0=r at *
          generalize S.getD i 0=y at *
          repeat (first|refine Ta ?_|(refine Tm ?_;intro _)|refine Tc ?_|exact Tz)
          refine WC.dT rfl (by omega) ?_
          repeat (first|refine Ta ?_|(refine Tm ?_;intro _)|refine Tc ?_|exact Tz)
          refine WC.adraw 9 (k:=?_)
          repeat (first|refine Da ?_|refine DQ.does (fun s _=>a_load1 (hc:=h1)) Dp.const ?_|refine DQ.does (fun s _=>a_load1 (hc:=h2)) Dp.const ?_|refine DQ.does (fun s _=>h_add rfl rfl h3) Dp.const ?_|refine Dc ?_)
          refine DQ.anil (k:=?_)
          intro sx _
          repeat (first|refine Ta ?_|(refine Tm ?_;intro _)|refine WO.stores (a_store (hc:=hov) (hle:=by rw[w3C_length,hml];simp;omega)) ?_|refine Tc ?_|exact Tz)
          refine WX.metI (i+1) (hs:=⟨by show i+1≤8;omega,by show 8 - (i+1)<8 - i;omega⟩)
        · have hi8:i=8:=by omega
          have hfull:mxW R S 8=Sha.addW R S:=by have:=mxW_full hRS;rwa [hR8] at this
          have hA8:(Sha.addW R S).length=8:=by rw[addW_length hRS,hR8]
          rw[show mxW R S i=Sha.addW R S by rw[hi8];exact hfull]
          generalize Sha.addW R S=A at *
          have hcut:cut (w3C A) 0 8=w3C A:=by unfold cut;rw[List.drop_zero,List.take_of_length_le (by rw[w3C_length,hA8];omega)]
          have hovA:over (w3C [0,0,0,0,0,0,0,0]) 0 (w3C A)=w3C A:=by simp[over,w3C_length,hA8]
          repeat (first|refine Ta ?_|(refine Tm ?_;intro _)|refine Tc ?_|exact Tz)
          refine WC.dF rfl (by omega) ?_
          repeat (first|refine Ta ?_|(refine Tm ?_;intro _)|refine WO.does (a_load (vs:=w3C A) (hc:=hcut) (hl:=by rw[w3C_length,hA8])) ?_|refine WO.stores (a_store (vs:=w3C A) (hl:=by rw[w3C_length,hA8]) (h1:=w3C_one A) (hc:=hovA) (hle:=by rw[w3C_length,hA8];rfl)) ?_|refine Tc ?_|exact Tz)
          exact WX.aret1 (hr:=a_rvc (vs:=w3C A) (hc:=hcut) (hl:=by rw[w3C_length,hA8])) (hp:=rfl)
end Sx
end Go.Proofs.YtmhligfnchegdaaGreatDoor
