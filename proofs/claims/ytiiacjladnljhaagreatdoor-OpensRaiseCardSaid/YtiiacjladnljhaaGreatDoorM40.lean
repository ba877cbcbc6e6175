/- Part 40 of the proof: OrC -/
import Derived.Test.YtiiacjladnljhaaGreatDoorM39
set_option linter.unusedSimpArgs false
set_option linter.unusedVariables false
namespace Go.Proofs.YtiiacjladnljhaaGreatDoor
open Go Go.RowKit Go.BigFrame
namespace Sx
attribute [local irreducible] wd DQ DQS WO WC WX
theorem ra5 {l:Nat} (h:l+1≤1000):l+1+1<9223372036854775808:=by omega
theorem ra6 {l:Nat} (h:l+1≤1000):(l+1+1)*8≤140737488355328:=by omega
theorem ra7 {l:Nat} (h:l+1≤1000):(l+1+1)*32≤140737488355328:=by omega
theorem kI_length {l:List Od}:(l.flatMap kI).length=l.length*1:=flat_length (f:=kI) (k:=1) (fun _=>rfl) l
theorem zI_length {l:List Od}:(l.flatMap zI).length=l.length*4:=flat_length (f:=zI) (k:=4) (fun _=>rfl) l
theorem kI_snoc {l:List Od} {x:Od}:(l++[x]).flatMap kI=l.flatMap kI++intC (x.n - 1):=by rw[List.flatMap_append];simp[kI]
theorem zI_snoc {l:List Od} {x:Od}:(l++[x]).flatMap zI=l.flatMap zI++numC x.z:=by rw[List.flatMap_append];simp[zI]
theorem curL_le {ls:List Od} {n i:Nat} (h:(byN n ls).length≤n*100) (hl:ls.length≤100):(curL ls n i).length≤(n+1)*100:=by
  unfold curL
  rw[List.length_append]
  have:=List.length_filter_le (fun o:Od=>decide (o.n=n+1)) (ls.take i)
  have h2:(ls.take i).length≤100:=by rw[List.length_take];omega
  omega
theorem byN_le {ls:List Od} (hl:ls.length≤100):∀ n,(byN n ls).length≤n*100
  | 0=>by simp[byN]
  | n+1=>by rw[← curL_all];exact curL_le (byN_le hl n) hl
section
variable (p q g h:Nat) (pt:Option Addr) (c:Nat) (N:List (Nat × Nat)) (pl:Option Addr) (cl:Nat) (ls:List Od)
def r16Y (M m:Nat):Value→List Ent→Prop:=NewWr (wtE q ((rKs N.length M ls).map (· + 1)) ((rKs N.length M ls).map (· + 1)).length) m ((rsL p q ((rKs N.length M ls).map (· + 1)) (rZs N.length M ls) m).flatMap numC)
set_option maxHeartbeats 8000000 in
theorem r16_RaiseY (F m:Nat) (hp:p<B256) (hq:q<B256) (hg:g<B256) (hh:h<B256) (hN:NumsOk N) (hNl:N.length≤100) (hls:∀ o∈ls,OdOk o) (hn:ls.length≤100)
    (hs:setB p q g h (F:Int) (m:Int) N=true) (hlen:F+m≤ls.length) :
    Fn Tryz.prog 9 [stV p q g h (F:Int) (m:Int) (.slice pt N.length c),.slice pl ls.length cl] (fun w=>RdF keyC (.slice pt N.length c) N w∧RdF odC (.slice pl ls.length cl) ls w)
      (RsP (raiseB p q g h (F:Int) (m:Int) N ls) (r16Y p q N ls (F+m) m)):=by
  have hsp:=setB_spec hs
  have hsm:=setB_more hs
  have hS:=r15_Setting p q g h (F:Int) (m:Int) pt c N hp hq hg hh hN (by omega) (by omega) (by omega) (by omega) (by omega)
  rw[hs] at hS
  have hadd:IntKind.i64.wrap ((F:Int)+(m:Int))=((F+m:Nat):Int):=by rw[show (F:Int)+(m:Int)=((F+m:Nat):Int) by omega];exact i64_in (by omega) (by omega)
  have hN7:N.length≤7:=hsp.2.1
  have hF5:F+m≤5:=by omega
  have hm1:1≤m:=by omega
  have hm3:m≤3:=by omega
  have hmq:m<q:=by omega
  have hNq:N.length<q:=hsp.2.2.1
  have hp1:1<p:=(gMay_spec hsp.2.2.2.2.2.2.1).1
  have hbl:=byN_le hn
  clear hsp hsm hN hg hh
  generalize hF:F+m=M at *
  refine Fn.enter Tryz.func9 rfl rfl rfl ?_
  intro w hw
  obtain⟨wK,wO⟩:=hw
  have hlt0:¬ ((ls.length:Nat):Int)<((M:Nat):Int):=by omega
  repeat (first|refine WO.acallR (hc:=hS) (hR:=fun w1 hm=>(wK.mod hm.mod).rdK) (k:=?_)|refine WO.does (does_add rfl rfl hadd) ?_|refine WO.does (does_lssN rfl rfl hlt0) ?_|refine Ta ?_|(refine Tm ?_;intro _)|refine Tc ?_|exact Tz)
  rename_i gS
  refine WC.loopI (σ:=Nat × Nat × Nat × Nat × Nat) (fun s=>s.1≤N.length∧(0<(byN s.1 ls).length→s.2.2.1<9223372036854775808∧(byN s.1 ls).length≤s.2.2.1∧s.2.2.2.2<9223372036854775808∧(byN s.1 ls).length≤s.2.2.2.2))
    (fun s=>[(1,.slice pl ls.length cl),(2,Sx.pt gS),(6,agV s.2.1 s.2.2.1 (byN s.1 ls).length (byN s.1 ls).length),(7,agV s.2.2.2.1 s.2.2.2.2 (byN s.1 ls).length (byN s.1 ls).length),(8,.int .u8 ((s.1+1:Nat):Int))])
    (fun s=>⟨gS,29,stC p q g h (F:Int) (m:Int) (.slice pt N.length c)⟩::(iaL s.2.1 ((byN s.1 ls).flatMap kI) (mkz (s.2.2.1 - (byN s.1 ls).length) [.int .i64 0]) (byN s.1 ls).length++naL s.2.2.2.1 ((byN s.1 ls).flatMap zI) (mkz (s.2.2.2.2 - (byN s.1 ls).length) (numC 0)) (byN s.1 ls).length)) (fun s=>N.length - s.1) (0,0,0,0,0) (fun s hi=>?_) ⟨Nat.zero_le _,fun h=>absurd h (by simp[byN])⟩
  obtain⟨n,g1,c1,g2,c2⟩:=s
  try dsimp only at hi ⊢
  obtain⟨hi,hr⟩:=hi
  have hcv:IntKind.i64.wrap ((n+1:Nat):Int)=((n+1:Nat):Int):=i64_in (by omega) (by omega)
  by_cases hlt:n<N.length
  · have haddn:IntKind.u8.wrap (((n+1:Nat):Int)+1)=((n+1+1:Nat):Int):=by simp[IntKind.wrap,IntKind.signed,IntKind.bits];omega
    have hsub:IntKind.i64.wrap (((n+1:Nat):Int) - 1)=((n:Nat):Int):=by rw[show ((n+1:Nat):Int) - 1=((n:Nat):Int) by omega];exact i64_in (by omega) (by omega)
    rw[← curL_none (ls:=ls) (n:=n)] at hr ⊢
    repeat (first|refine WO.does (does_conv rfl hcv) ?_|refine Ta ?_|(refine Tm ?_;intro _)|refine Tc ?_|exact Tz)
    refine WC.dT rfl (by omega) ?_
    repeat (first|refine Ta ?_|(refine Tm ?_;intro _)|refine Tc ?_|exact Tz)
    refine WC.loopI (σ:=Nat × Nat × Nat × Nat × Nat) (fun s=>s.1≤ls.length∧(0<(curL ls n s.1).length→s.2.2.1<9223372036854775808∧(curL ls n s.1).length≤s.2.2.1∧s.2.2.2.2<9223372036854775808∧(curL ls n s.1).length≤s.2.2.2.2))
      (fun s=>[(1,.slice pl ls.length cl),(2,Sx.pt gS),(6,agV s.2.1 s.2.2.1 (curL ls n s.1).length (curL ls n s.1).length),(7,agV s.2.2.2.1 s.2.2.2.2 (curL ls n s.1).length (curL ls n s.1).length),(8,.int .u8 ((n+1:Nat):Int)),(9,.int .i64 (s.1:Int))])
      (fun s=>⟨gS,29,stC p q g h (F:Int) (m:Int) (.slice pt N.length c)⟩::(iaL s.2.1 ((curL ls n s.1).flatMap kI) (mkz (s.2.2.1 - (curL ls n s.1).length) [.int .i64 0]) (curL ls n s.1).length++naL s.2.2.2.1 ((curL ls n s.1).flatMap zI) (mkz (s.2.2.2.2 - (curL ls n s.1).length) (numC 0)) (curL ls n s.1).length)) (fun s=>ls.length - s.1) (0,g1,c1,g2,c2) (fun s hi2=>?_) ⟨Nat.zero_le _,hr⟩ (hl:=Lle.same)
    clear hr
    obtain⟨i,g1,c1,g2,c2⟩:=s
    try dsimp only at hi2 ⊢
    obtain⟨hi2,hr⟩:=hi2
    by_cases hil:i<ls.length
    · obtain⟨x,hx⟩ : ∃ y,ls[i]?=some y:=⟨_,List.getElem?_eq_getElem hil⟩
      obtain⟨b,o,e,_,hsg⟩:=id wO |>.get hx
      subst e
      have hxn:=od_at (o:=o) hx (j:=2) (v:=.int .u8 (x.n:Int)) rfl (by decide)
      have hxz:=od_z (o:=o) hx
      have haddi:IntKind.i64.wrap ((i:Int)+1)=((i+1:Nat):Int):=i64_in' (by omega) (by omega) (by omega)
      by_cases hxe:x.n=n+1
      · have hC':=curL_yes (n:=n) hx hxe
        have hl2:(curL ls n (i+1)).length=(curL ls n i).length+1:=by rw[hC',List.length_append];rfl
        have hk2:(curL ls n i).flatMap kI++intC n=(curL ls n (i+1)).flatMap kI:=by rw[hC',kI_snoc,hxe,Nat.add_sub_cancel]
        have hz2:(curL ls n i).flatMap zI++numC x.z=(curL ls n (i+1)).flatMap zI:=by rw[hC',zI_snoc]
        have hkl:((curL ls n i).flatMap kI).length=(curL ls n i).length*1:=kI_length
        have hzl:((curL ls n i).flatMap zI).length=(curL ls n i).length*4:=zI_length
        have hle:=curL_le (i:=i) (hbl n) hn
        rw[hxe] at hxn
        clear hC'
        generalize hCC:curL ls n (i+1)=CC at *
        generalize hKK:CC.flatMap kI=KK at *
        generalize hZZ:CC.flatMap zI=ZZ at *
        generalize hLL:CC.length=LL at *
        generalize (curL ls n i).flatMap kI=KB at *
        generalize (curL ls n i).flatMap zI=ZB at *
        generalize (curL ls n i).length=len at *
        generalize x.z=z at *
        have hlen:len≤1000:=by omega
        clear hle
        subst hl2
        rcases len with _|len
        · have e1:KB=[]:=List.length_eq_zero_iff.1 (by omega)
          have e2:ZB=[]:=List.length_eq_zero_iff.1 (by omega)
          subst e1 e2
          rw[List.nil_append] at hk2 hz2
          try dsimp only[agV,naL,iaL,List.nil_append,List.cons_append]
          repeat (first|refine Ta ?_|(refine Tm ?_;intro _)|refine Tc ?_|exact Tz)
          refine WC.dT rfl (by omega) ?_
          repeat (first|refine WO.does (does_indexSlice (o':=o+i*15) rfl rfl hil rfl) ?_|refine WO.does (a_loadF1 (hs:=hsg) (hle:=by omega) (hc:=hxn)) ?_|refine WO.does (a_loadF (vs:=numC z) (hs:=hsg) (hle:=by omega) (hc:=hxz)) ?_|refine WO.does (does_eqlY rfl rfl rfl) ?_|refine WO.does (does_conv rfl hcv) ?_|refine WO.does (does_sub rfl rfl hsub) ?_|refine WO.does (does_add rfl rfl haddi) ?_|refine Ta ?_|(refine Tm ?_;intro _)|(refine WO.makes (makes_build (cs:=intC n) rfl (by decide) rfl) ?_;intro _)|(refine WO.makes (makes_build (cs:=numC z) rfl (by decide) rfl) ?_;intro _)|refine Tc ?_|exact Tz)
          refine WO.appNZ (z:=[.int .i64 0]) (ys:=intC n) (m:=1) rfl rfl rfl (Rds.own (m:=1) Hs.here rfl) rfl (by decide) (by decide) (by decide) (by decide) (fun g3 c3 a2 a3=>?_)
          rw[hk2]
          repeat (first|refine WO.does (does_indexSlice (o':=o+i*15) rfl rfl hil rfl) ?_|refine WO.does (a_loadF1 (hs:=hsg) (hle:=by omega) (hc:=hxn)) ?_|refine WO.does (a_loadF (vs:=numC z) (hs:=hsg) (hle:=by omega) (hc:=hxz)) ?_|refine WO.does (does_eqlY rfl rfl rfl) ?_|refine WO.does (does_conv rfl hcv) ?_|refine WO.does (does_sub rfl rfl hsub) ?_|refine WO.does (does_add rfl rfl haddi) ?_|refine Ta ?_|(refine Tm ?_;intro _)|(refine WO.makes (makes_build (cs:=intC n) rfl (by decide) rfl) ?_;intro _)|(refine WO.makes (makes_build (cs:=numC z) rfl (by decide) rfl) ?_;intro _)|refine Tc ?_|exact Tz)
          refine WO.appNZ (z:=numC 0) (ys:=numC z) (m:=1) rfl rfl rfl (Rds.own (m:=4) Hs.here rfl) rfl (by decide) (by decide) (by decide) (by decide) (fun g4 c4 a4 a5=>?_)
          rw[hz2]
          repeat (first|refine WO.does (does_indexSlice (o':=o+i*15) rfl rfl hil rfl) ?_|refine WO.does (a_loadF1 (hs:=hsg) (hle:=by omega) (hc:=hxn)) ?_|refine WO.does (a_loadF (vs:=numC z) (hs:=hsg) (hle:=by omega) (hc:=hxz)) ?_|refine WO.does (does_eqlY rfl rfl rfl) ?_|refine WO.does (does_conv rfl hcv) ?_|refine WO.does (does_sub rfl rfl hsub) ?_|refine WO.does (does_add rfl rfl haddi) ?_|refine Ta ?_|(refine Tm ?_;intro _)|(refine WO.makes (makes_build (cs:=intC n) rfl (by decide) rfl) ?_;intro _)|(refine WO.makes (makes_build (cs:=numC z) rfl (by decide) rfl) ?_;intro _)|refine Tc ?_|exact Tz)
          have hLL1:CC.length=1:=hLL
          subst hKK hZZ hCC
          refine WX.metI (i+1,g3,c3,g4,c4) (hk:=by dsimp only;rw[hLL1];repeat (first|exact Kle.nil|refine Kle.cons rfl rfl ?_)) (hl:=by dsimp only;rw[hLL1];dsimp only[iaL,naL,List.nil_append,List.cons_append];repeat (first|exact Lle.nil|refine Lle.cons (by repeat (first|exact Pk.here|apply Pk.there)) rfl ?_)) (hs:=⟨⟨by show i+1≤ls.length;omega,fun _=>by show _∧_;dsimp only;rw[hLL1];exact⟨a2,a3,a4,a5⟩⟩,by show ls.length - (i+1)<ls.length - i;omega⟩)
        · obtain⟨r1,r2,r3,r4⟩:=hr (Nat.succ_pos _)
          try dsimp only[agV,naL,iaL,List.nil_append,List.cons_append]
          repeat (first|refine Ta ?_|(refine Tm ?_;intro _)|refine Tc ?_|exact Tz)
          refine WC.dT rfl (by omega) ?_
          repeat (first|refine WO.does (does_indexSlice (o':=o+i*15) rfl rfl hil rfl) ?_|refine WO.does (a_loadF1 (hs:=hsg) (hle:=by omega) (hc:=hxn)) ?_|refine WO.does (a_loadF (vs:=numC z) (hs:=hsg) (hle:=by omega) (hc:=hxz)) ?_|refine WO.does (does_eqlY rfl rfl rfl) ?_|refine WO.does (does_conv rfl hcv) ?_|refine WO.does (does_sub rfl rfl hsub) ?_|refine WO.does (does_add rfl rfl haddi) ?_|refine Ta ?_|(refine Tm ?_;intro _)|(refine WO.makes (makes_build (cs:=intC n) rfl (by decide) rfl) ?_;intro _)|(refine WO.makes (makes_build (cs:=numC z) rfl (by decide) rfl) ?_;intro _)|refine Tc ?_|exact Tz)
          refine WO.appKZ (z:=[.int .i64 0]) (m:=1) (l:=len+1+1) rfl rfl rfl (xs:=KB) (ys:=intC n) hkl r2 (by repeat (first|exact Pk.here|apply Pk.there)) (Rds.own (m:=1) Hs.here rfl) rfl rfl rfl (ra5 hlen) r1 (ra6 hlen) (by decide) (by decide) (fun g3 c3 a2 a3=>?_)
          rw[hk2]
          repeat (first|refine WO.does (does_indexSlice (o':=o+i*15) rfl rfl hil rfl) ?_|refine WO.does (a_loadF1 (hs:=hsg) (hle:=by omega) (hc:=hxn)) ?_|refine WO.does (a_loadF (vs:=numC z) (hs:=hsg) (hle:=by omega) (hc:=hxz)) ?_|refine WO.does (does_eqlY rfl rfl rfl) ?_|refine WO.does (does_conv rfl hcv) ?_|refine WO.does (does_sub rfl rfl hsub) ?_|refine WO.does (does_add rfl rfl haddi) ?_|refine Ta ?_|(refine Tm ?_;intro _)|(refine WO.makes (makes_build (cs:=intC n) rfl (by decide) rfl) ?_;intro _)|(refine WO.makes (makes_build (cs:=numC z) rfl (by decide) rfl) ?_;intro _)|refine Tc ?_|exact Tz)
          refine WO.appKZ (z:=numC 0) (m:=1) (l:=len+1+1) rfl rfl rfl (xs:=ZB) (ys:=numC z) hzl r4 (by repeat (first|exact Pk.here|apply Pk.there)) (Rds.own (m:=4) Hs.here rfl) rfl rfl rfl (ra5 hlen) r3 (ra7 hlen) (by decide) (by decide) (fun g4 c4 a4 a5=>?_)
          rw[hz2]
          repeat (first|refine WO.does (does_indexSlice (o':=o+i*15) rfl rfl hil rfl) ?_|refine WO.does (a_loadF1 (hs:=hsg) (hle:=by omega) (hc:=hxn)) ?_|refine WO.does (a_loadF (vs:=numC z) (hs:=hsg) (hle:=by omega) (hc:=hxz)) ?_|refine WO.does (does_eqlY rfl rfl rfl) ?_|refine WO.does (does_conv rfl hcv) ?_|refine WO.does (does_sub rfl rfl hsub) ?_|refine WO.does (does_add rfl rfl haddi) ?_|refine Ta ?_|(refine Tm ?_;intro _)|(refine WO.makes (makes_build (cs:=intC n) rfl (by decide) rfl) ?_;intro _)|(refine WO.makes (makes_build (cs:=numC z) rfl (by decide) rfl) ?_;intro _)|refine Tc ?_|exact Tz)
          have hLL1:CC.length=len+1+1:=hLL
          subst hKK hZZ hCC
          refine WX.metI (i+1,g3,c3,g4,c4) (hk:=by dsimp only;rw[hLL1];repeat (first|exact Kle.nil|refine Kle.cons rfl rfl ?_)) (hl:=by dsimp only;rw[hLL1];dsimp only[iaL,naL,List.nil_append,List.cons_append];repeat (first|exact Lle.nil|refine Lle.cons (by repeat (first|exact Pk.here|apply Pk.there)) rfl ?_)) (hs:=⟨⟨by show i+1≤ls.length;omega,fun _=>by show _∧_;dsimp only;rw[hLL1];exact⟨a2,a3,a4,a5⟩⟩,by show ls.length - (i+1)<ls.length - i;omega⟩)
      · have hxi:(x.n:Int)≠((n+1:Nat):Int):=fun e=>hxe (Int.ofNat_inj.1 e)
        rw[← curL_no (n:=n) hx hxe] at hr ⊢
        generalize hC:curL ls n (i+1)=C at *
        generalize hTL:iaL g1 (C.flatMap kI) (mkz (c1 - C.length) [.int .i64 0]) C.length++naL g2 (C.flatMap zI) (mkz (c2 - C.length) (numC 0)) C.length=TL
        generalize hA1:agV g1 c1 C.length C.length=a1
        generalize hA2:agV g2 c2 C.length C.length=a2
        repeat (first|refine Ta ?_|(refine Tm ?_;intro _)|refine Tc ?_|exact Tz)
        refine WC.dT rfl (by omega) ?_
        repeat (first|refine WO.does (does_indexSlice (o':=o+i*15) rfl rfl hil rfl) ?_|refine WO.does (a_loadF1 (hs:=hsg) (hle:=by omega) (hc:=hxn)) ?_|refine WO.does (does_eqlN rfl rfl hxi) ?_|refine WO.does (does_add rfl rfl haddi) ?_|refine Ta ?_|(refine Tm ?_;intro _)|refine Tc ?_|exact Tz)
        subst hTL hA1 hA2 hC
        exact WX.metI (i+1,g1,c1,g2,c2) (hl:=Lle.same) (hs:=⟨⟨by show i+1≤ls.length;omega,hr⟩,by show ls.length - (i+1)<ls.length - i;omega⟩)
    · have hi3:i=ls.length:=by omega
      subst hi3
      rw[curL_all] at hr ⊢
      generalize hC:byN (n+1) ls=C at *
      generalize hTL:iaL g1 (C.flatMap kI) (mkz (c1 - C.length) [.int .i64 0]) C.length++naL g2 (C.flatMap zI) (mkz (c2 - C.length) (numC 0)) C.length=TL
      generalize hA1:agV g1 c1 C.length C.length=a1
      generalize hA2:agV g2 c2 C.length C.length=a2
      repeat (first|refine Ta ?_|(refine Tm ?_;intro _)|refine Tc ?_|exact Tz)
      refine WC.dF rfl (by omega) ?_
      repeat (first|refine WO.does (does_add rfl rfl haddn) ?_|refine Ta ?_|(refine Tm ?_;intro _)|refine Tc ?_|exact Tz)
      subst hTL hA1 hA2 hC
      exact WX.metI (n+1,g1,c1,g2,c2) (hl:=Lle.same) (hs:=⟨⟨by show n+1≤N.length;omega,hr⟩,by show N.length - (n+1)<N.length - n;omega⟩)
  · have hn2:n=N.length:=by omega
    subst hn2
    generalize hCL:byN N.length ls=C at *
    generalize hTL:iaL g1 (C.flatMap kI) (mkz (c1 - C.length) [.int .i64 0]) C.length++naL g2 (C.flatMap zI) (mkz (c2 - C.length) (numC 0)) C.length=TL
    generalize hA1:agV g1 c1 C.length C.length=a1
    generalize hA2:agV g2 c2 C.length C.length=a2
    repeat (first|refine WO.does (does_conv rfl hcv) ?_|refine Ta ?_|(refine Tm ?_;intro _)|refine Tc ?_|exact Tz)
    refine WC.dF rfl (by omega) ?_
    repeat (first|refine Ta ?_|(refine Tm ?_;intro _)|refine Tc ?_|exact Tz)
    refine WC.loopI (σ:=Nat) (fun i=>i≤ls.length∧(∀ (j:Nat) (x:Od),j<i→ls[j]?=some x→odB p N (ls.headD od0) x=true)∧(∀ (k j:Nat) (x y:Od),k<j→j<i→ls[k]?=some y→ls[j]?=some x→y.n≠x.n)) (fun i=>[(1,.slice pl ls.length cl),(2,Sx.pt gS),(6,a1),(7,a2),(10,.int .i64 (i:Int))]) (fun i=>⟨gS,29,stC p q g h (F:Int) (m:Int) (.slice pt N.length c)⟩::TL) (fun i=>ls.length - i) 0 (fun i hi2=>?_) ⟨Nat.zero_le _,fun j x h=>absurd h (Nat.not_lt_zero _),fun k j x y _ h=>absurd h (Nat.not_lt_zero _)⟩ (hl:=Lle.same)
    try dsimp only at hi2 ⊢
    obtain⟨hi2,hok,hdi⟩:=hi2
    by_cases hil:i<ls.length
    · obtain⟨x,hx⟩ : ∃ y,ls[i]?=some y:=⟨_,List.getElem?_eq_getElem hil⟩
      have h0l:0<ls.length:=by omega
      obtain⟨x0,hx0⟩ : ∃ y,ls[0]?=some y:=⟨_,List.getElem?_eq_getElem h0l⟩
      have hhd:=headD_get hx0
      have hxm:=List.mem_of_getElem? hx
      have hxo:=hls x hxm
      obtain⟨b,o,e,_,hsg⟩:=id wO |>.get hx
      subst e
      have hce:=od_at (o:=o) hx (j:=0) (v:=.int .u64 (x.e:Int)) rfl (by decide)
      have hcd:=od_at (o:=o) hx (j:=1) (v:=.int .u8 (x.d:Int)) rfl (by decide)
      have hcn:=od_at (o:=o) hx (j:=2) (v:=.int .u8 (x.n:Int)) rfl (by decide)
      have hce0:=od_at (o:=o) hx0 (j:=0) (v:=.int .u64 (x0.e:Int)) rfl (by decide)
      have hcd0:=od_at (o:=o) hx0 (j:=1) (v:=.int .u8 (x0.d:Int)) rfl (by decide)
      have hcz:=od_z (o:=o) hx
      have haddi:IntKind.i64.wrap ((i:Int)+1)=((i+1:Nat):Int):=i64_in' (by omega) (by omega) (by omega)
      have hNo:=r15_Node p q g h (F:Int) (m:Int) pt c N x.n hxo.n (by omega)
      have hMa:=r8_May p q g h x.z hxo.z hp
      by_cases he:x.e=x0.e
      · have hei:(x.e:Int)=(x0.e:Int):=by rw[he]
        by_cases hd:x.d=x0.d
        · have hdi2:(x.d:Int)=(x0.d:Int):=by rw[hd]
          cases hnb:nodeB x.n N with
          | true =>
            rw[hnb] at hNo
            cases hmy:gMay p x.z with
            | true =>
              rw[hmy] at hMa
              have hgood:odB p N x0 x=true:=by unfold odB;rw[hnb,hmy,decide_eq_true he,decide_eq_true hd];rfl
              repeat (first|refine Ta ?_|(refine Tm ?_;intro _)|refine Tc ?_|exact Tz)
              refine WC.dT rfl (by omega) ?_
              repeat (first|refine Ta ?_|(refine Tm ?_;intro _)|refine Tc ?_|exact Tz)
              refine WC.adraw 43 (k:=?_)
              iterate 43 (first|refine DQ.does (fun s _=>does_indexSlice (o':=o+i*15) rfl rfl hil rfl) Dp.const ?_|refine DQ.does (fun s _=>does_indexSlice (o':=o+0*15) rfl rfl h0l rfl) Dp.const ?_|refine DQ.does (fun s _=>a_loadF1 (hs:=hsg) (hle:=by omega) (hc:=hce)) Dp.const ?_|refine DQ.does (fun s _=>a_loadF1 (hs:=hsg) (hle:=by omega) (hc:=hcd)) Dp.const ?_|refine DQ.does (fun s _=>a_loadF1 (hs:=hsg) (hle:=by omega) (hc:=hcn)) Dp.const ?_|refine DQ.does (fun s _=>a_loadF1 (hs:=hsg) (hle:=by omega) (hc:=hce0)) Dp.const ?_|refine DQ.does (fun s _=>a_loadF1 (hs:=hsg) (hle:=by omega) (hc:=hcd0)) Dp.const ?_|refine DQ.does (fun s _=>a_loadF (vs:=numC x.z) (hs:=hsg) (hle:=by omega) (hc:=hcz)) Dp.const ?_|refine DQ.does (fun s _=>does_neqN rfl rfl hei) Dp.const ?_|refine DQ.does (fun s _=>does_neqN rfl rfl hdi2) Dp.const ?_|refine Da ?_|refine DQ.acall (hc:=hNo) (k:=?_)|refine DQ.acall (hc:=hMa) (k:=?_)|refine Dc ?_)
              refine DQ.anil (k:=?_)
              intro sx _
              repeat (first|refine Ta ?_|(refine Tm ?_;intro _)|refine Tc ?_|exact Tz)
              refine WC.loopI (σ:=Nat) (fun k=>k≤i∧∀ (k' : Nat) (y:Od),k' < k→ls[k']?=some y→y.n≠x.n) (fun k=>[(1,.slice (some ⟨b,o,none⟩) ls.length cl),(2,Sx.pt gS),(6,a1),(7,a2),(10,.int .i64 (i:Int)),(11,.int .i64 (k:Int))]) (fun k=>⟨gS,29,stC p q g h (F:Int) (m:Int) (.slice pt N.length c)⟩::TL) (fun k=>i - k) 0 (fun k hk=>?_) ⟨Nat.zero_le _,fun j y h=>absurd h (Nat.not_lt_zero _)⟩ (hl:=Lle.same)
              try dsimp only at hk ⊢
              obtain⟨hki,hkd⟩:=hk
              by_cases hkk:k<i
              · have hkl:k<ls.length:=by omega
                obtain⟨y,hy⟩ : ∃ y,ls[k]?=some y:=⟨_,List.getElem?_eq_getElem hkl⟩
                have hcy:=od_at (o:=o) hy (j:=2) (v:=.int .u8 (y.n:Int)) rfl (by decide)
                have haddk:IntKind.i64.wrap ((k:Int)+1)=((k+1:Nat):Int):=i64_in' (by omega) (by omega) (by omega)
                by_cases hyx:y.n=x.n
                · have hyi:(y.n:Int)=(x.n:Int):=by rw[hyx]
                  repeat (first|refine Ta ?_|(refine Tm ?_;intro _)|refine Tc ?_|exact Tz)
                  refine WC.dT rfl (by omega) ?_
                  repeat (first|refine Ta ?_|(refine Tm ?_;intro _)|refine Tc ?_|exact Tz)
                  refine WC.adraw 11 (k:=?_)
                  iterate 11 (first|refine DQ.does (fun s _=>does_indexSlice (o':=o+k*15) rfl rfl hkl rfl) Dp.const ?_|refine DQ.does (fun s _=>does_indexSlice (o':=o+i*15) rfl rfl hil rfl) Dp.const ?_|refine DQ.does (fun s _=>a_loadF1 (hs:=hsg) (hle:=by omega) (hc:=hcy)) Dp.const ?_|refine DQ.does (fun s _=>a_loadF1 (hs:=hsg) (hle:=by omega) (hc:=hcn)) Dp.const ?_|refine DQ.does (fun s _=>does_eqlY rfl rfl hyi) Dp.const ?_|refine Da ?_|refine Dc ?_)
                  refine DQ.anil (k:=?_)
                  intro sx _
                  repeat (first|refine Ta ?_|(refine Tm ?_;intro _)|refine Tc ?_|exact Tz)
                  exact WX.ret2 rfl (by exact rv_tmp rfl) (by exact rv_tmp rfl) [] Lle.nil (RsP.no (raiseB_dup hy hx hkk hyx))
                · have hyi:(y.n:Int)≠(x.n:Int):=fun e=>hyx (Int.ofNat_inj.1 e)
                  repeat (first|refine Ta ?_|(refine Tm ?_;intro _)|refine Tc ?_|exact Tz)
                  refine WC.dT rfl (by omega) ?_
                  repeat (first|refine Ta ?_|(refine Tm ?_;intro _)|refine Tc ?_|exact Tz)
                  refine WC.adraw 11 (k:=?_)
                  iterate 11 (first|refine DQ.does (fun s _=>does_indexSlice (o':=o+k*15) rfl rfl hkl rfl) Dp.const ?_|refine DQ.does (fun s _=>does_indexSlice (o':=o+i*15) rfl rfl hil rfl) Dp.const ?_|refine DQ.does (fun s _=>a_loadF1 (hs:=hsg) (hle:=by omega) (hc:=hcy)) Dp.const ?_|refine DQ.does (fun s _=>a_loadF1 (hs:=hsg) (hle:=by omega) (hc:=hcn)) Dp.const ?_|refine DQ.does (fun s _=>does_eqlN rfl rfl hyi) Dp.const ?_|refine Da ?_|refine Dc ?_)
                  refine DQ.anil (k:=?_)
                  intro sx _
                  repeat (first|refine WO.does (does_add rfl rfl haddk) ?_|refine Ta ?_|(refine Tm ?_;intro _)|refine Tc ?_|exact Tz)
                  exact WX.metI (k+1) (hl:=Lle.same) (hs:=⟨⟨by show k+1≤i;omega,fun k' y' h1 h2=>by
                    by_cases hk3:k'=k
                    · subst hk3;rw[hy] at h2;cases h2;exact hyx
                    · exact hkd k' y' (by omega) h2⟩,by show i - (k+1)<i - k;omega⟩)
              · have hk2:k=i:=by omega
                subst hk2
                repeat (first|refine Ta ?_|(refine Tm ?_;intro _)|refine Tc ?_|exact Tz)
                refine WC.dF rfl (by omega) ?_
                repeat (first|refine WO.does (does_add rfl rfl haddi) ?_|refine Ta ?_|(refine Tm ?_;intro _)|refine Tc ?_|exact Tz)
                exact WX.metI (k+1) (hl:=Lle.same) (hs:=⟨⟨by show k+1≤ls.length;omega,fun j x' h1 h2=>by
                  by_cases hj:j=k
                  · subst hj;rw[hx] at h2;cases h2;rw[hhd];exact hgood
                  · exact hok j x' (by omega) h2,fun k' j x' y' h1 h2 h3 h4=>by
                  by_cases hj:j=k
                  · subst hj;rw[hx] at h4;cases h4;exact hkd k' y' h1 h3
                  · exact hdi k' j x' y' h1 (by omega) h3 h4⟩,by show ls.length - (k+1)<ls.length - k;omega⟩)
            | false =>
              rw[hmy] at hMa
              have hbad:odB p N x0 x=false:=by unfold odB;rw[hmy,Bool.and_false]
              repeat (first|refine Ta ?_|(refine Tm ?_;intro _)|refine Tc ?_|exact Tz)
              refine WC.dT rfl (by omega) ?_
              repeat (first|refine Ta ?_|(refine Tm ?_;intro _)|refine Tc ?_|exact Tz)
              refine WC.adraw 43 (k:=?_)
              iterate 43 (first|refine DQ.does (fun s _=>does_indexSlice (o':=o+i*15) rfl rfl hil rfl) Dp.const ?_|refine DQ.does (fun s _=>does_indexSlice (o':=o+0*15) rfl rfl h0l rfl) Dp.const ?_|refine DQ.does (fun s _=>a_loadF1 (hs:=hsg) (hle:=by omega) (hc:=hce)) Dp.const ?_|refine DQ.does (fun s _=>a_loadF1 (hs:=hsg) (hle:=by omega) (hc:=hcd)) Dp.const ?_|refine DQ.does (fun s _=>a_loadF1 (hs:=hsg) (hle:=by omega) (hc:=hcn)) Dp.const ?_|refine DQ.does (fun s _=>a_loadF1 (hs:=hsg) (hle:=by omega) (hc:=hce0)) Dp.const ?_|refine DQ.does (fun s _=>a_loadF1 (hs:=hsg) (hle:=by omega) (hc:=hcd0)) Dp.const ?_|refine DQ.does (fun s _=>a_loadF (vs:=numC x.z) (hs:=hsg) (hle:=by omega) (hc:=hcz)) Dp.const ?_|refine DQ.does (fun s _=>does_neqN rfl rfl hei) Dp.const ?_|refine DQ.does (fun s _=>does_neqN rfl rfl hdi2) Dp.const ?_|refine Da ?_|refine DQ.acall (hc:=hNo) (k:=?_)|refine DQ.acall (hc:=hMa) (k:=?_)|refine Dc ?_)
              refine DQ.anil (k:=?_)
              intro sx _
              repeat (first|refine Ta ?_|(refine Tm ?_;intro _)|refine Tc ?_|exact Tz)
              exact WX.ret2 rfl (by exact rv_tmp rfl) (by exact rv_tmp rfl) [] Lle.nil (RsP.no (raiseB_odB hxm (by rw[hhd];exact hbad)))
          | false =>
            rw[hnb] at hNo
            have hbad:odB p N x0 x=false:=by unfold odB;rw[hnb,Bool.and_false];rfl
            repeat (first|refine Ta ?_|(refine Tm ?_;intro _)|refine Tc ?_|exact Tz)
            refine WC.dT rfl (by omega) ?_
            repeat (first|refine Ta ?_|(refine Tm ?_;intro _)|refine Tc ?_|exact Tz)
            refine WC.adraw 43 (k:=?_)
            iterate 43 (first|refine DQ.does (fun s _=>does_indexSlice (o':=o+i*15) rfl rfl hil rfl) Dp.const ?_|refine DQ.does (fun s _=>does_indexSlice (o':=o+0*15) rfl rfl h0l rfl) Dp.const ?_|refine DQ.does (fun s _=>a_loadF1 (hs:=hsg) (hle:=by omega) (hc:=hce)) Dp.const ?_|refine DQ.does (fun s _=>a_loadF1 (hs:=hsg) (hle:=by omega) (hc:=hcd)) Dp.const ?_|refine DQ.does (fun s _=>a_loadF1 (hs:=hsg) (hle:=by omega) (hc:=hcn)) Dp.const ?_|refine DQ.does (fun s _=>a_loadF1 (hs:=hsg) (hle:=by omega) (hc:=hce0)) Dp.const ?_|refine DQ.does (fun s _=>a_loadF1 (hs:=hsg) (hle:=by omega) (hc:=hcd0)) Dp.const ?_|refine DQ.does (fun s _=>a_loadF (vs:=numC x.z) (hs:=hsg) (hle:=by omega) (hc:=hcz)) Dp.const ?_|refine DQ.does (fun s _=>does_neqN rfl rfl hei) Dp.const ?_|refine DQ.does (fun s _=>does_neqN rfl rfl hdi2) Dp.const ?_|refine Da ?_|refine DQ.acall (hc:=hNo) (k:=?_)|refine DQ.acall (hc:=hMa) (k:=?_)|refine Dc ?_)
            refine DQ.anil (k:=?_)
            intro sx _
            repeat (first|refine Ta ?_|(refine Tm ?_;intro _)|refine Tc ?_|exact Tz)
            exact WX.ret2 rfl (by exact rv_tmp rfl) (by exact rv_tmp rfl) [] Lle.nil (RsP.no (raiseB_odB hxm (by rw[hhd];exact hbad)))
        · have hdi2:(x.d:Int)≠(x0.d:Int):=fun e=>hd (Int.ofNat_inj.1 e)
          have hbad:odB p N x0 x=false:=by unfold odB;rw[decide_eq_false hd,Bool.and_false];rfl
          repeat (first|refine Ta ?_|(refine Tm ?_;intro _)|refine Tc ?_|exact Tz)
          refine WC.dT rfl (by omega) ?_
          repeat (first|refine Ta ?_|(refine Tm ?_;intro _)|refine Tc ?_|exact Tz)
          refine WC.adraw 43 (k:=?_)
          iterate 43 (first|refine DQ.does (fun s _=>does_indexSlice (o':=o+i*15) rfl rfl hil rfl) Dp.const ?_|refine DQ.does (fun s _=>does_indexSlice (o':=o+0*15) rfl rfl h0l rfl) Dp.const ?_|refine DQ.does (fun s _=>a_loadF1 (hs:=hsg) (hle:=by omega) (hc:=hce)) Dp.const ?_|refine DQ.does (fun s _=>a_loadF1 (hs:=hsg) (hle:=by omega) (hc:=hcd)) Dp.const ?_|refine DQ.does (fun s _=>a_loadF1 (hs:=hsg) (hle:=by omega) (hc:=hcn)) Dp.const ?_|refine DQ.does (fun s _=>a_loadF1 (hs:=hsg) (hle:=by omega) (hc:=hce0)) Dp.const ?_|refine DQ.does (fun s _=>a_loadF1 (hs:=hsg) (hle:=by omega) (hc:=hcd0)) Dp.const ?_|refine DQ.does (fun s _=>a_loadF (vs:=numC x.z) (hs:=hsg) (hle:=by omega) (hc:=hcz)) Dp.const ?_|refine DQ.does (fun s _=>does_neqN rfl rfl hei) Dp.const ?_|refine DQ.does (fun s _=>does_neqY rfl rfl hdi2) Dp.const ?_|refine Da ?_|refine DQ.acall (hc:=hNo) (k:=?_)|refine DQ.acall (hc:=hMa) (k:=?_)|refine Dc ?_)
          refine DQ.anil (k:=?_)
          intro sx _
          repeat (first|refine Ta ?_|(refine Tm ?_;intro _)|refine Tc ?_|exact Tz)
          exact WX.ret2 rfl (by exact rv_tmp rfl) (by exact rv_tmp rfl) [] Lle.nil (RsP.no (raiseB_odB hxm (by rw[hhd];exact hbad)))
      · have hei:(x.e:Int)≠(x0.e:Int):=fun e=>he (Int.ofNat_inj.1 e)
        have hbad:odB p N x0 x=false:=by unfold odB;rw[decide_eq_false he];rfl
        repeat (first|refine Ta ?_|(refine Tm ?_;intro _)|refine Tc ?_|exact Tz)
        refine WC.dT rfl (by omega) ?_
        repeat (first|refine Ta ?_|(refine Tm ?_;intro _)|refine Tc ?_|exact Tz)
        refine WC.adraw 43 (k:=?_)
        iterate 43 (first|refine DQ.does (fun s _=>does_indexSlice (o':=o+i*15) rfl rfl hil rfl) Dp.const ?_|refine DQ.does (fun s _=>does_indexSlice (o':=o+0*15) rfl rfl h0l rfl) Dp.const ?_|refine DQ.does (fun s _=>a_loadF1 (hs:=hsg) (hle:=by omega) (hc:=hce)) Dp.const ?_|refine DQ.does (fun s _=>a_loadF1 (hs:=hsg) (hle:=by omega) (hc:=hcd)) Dp.const ?_|refine DQ.does (fun s _=>a_loadF1 (hs:=hsg) (hle:=by omega) (hc:=hcn)) Dp.const ?_|refine DQ.does (fun s _=>a_loadF1 (hs:=hsg) (hle:=by omega) (hc:=hce0)) Dp.const ?_|refine DQ.does (fun s _=>a_loadF1 (hs:=hsg) (hle:=by omega) (hc:=hcd0)) Dp.const ?_|refine DQ.does (fun s _=>a_loadF (vs:=numC x.z) (hs:=hsg) (hle:=by omega) (hc:=hcz)) Dp.const ?_|refine DQ.does (fun s _=>does_neqY rfl rfl hei) Dp.const ?_|refine Da ?_|refine DQ.acall (hc:=hNo) (k:=?_)|refine DQ.acall (hc:=hMa) (k:=?_)|refine Dc ?_)
        refine DQ.anil (k:=?_)
        intro sx _
        repeat (first|refine Ta ?_|(refine Tm ?_;intro _)|refine Tc ?_|exact Tz)
        exact WX.ret2 rfl (by exact rv_tmp rfl) (by exact rv_tmp rfl) [] Lle.nil (RsP.no (raiseB_odB hxm (by rw[hhd];exact hbad)))
    · have hi4:i=ls.length:=by omega
      have hB:raiseB p q g h (F:Int) (m:Int) N ls=true:=raiseB_ok hs (by omega) (fun j x hj=>hok j x (by have:=(List.getElem?_eq_some_iff.1 hj).1;omega) hj) (fun k j x y h1 h2 h3=>hdi k j x y h1 (by have:=(List.getElem?_eq_some_iff.1 h3).1;omega) h2 h3)
      obtain⟨hcl,hK⟩:=rkOk hB hN7 hNq hlen hls
      have hMC:M≤(byN N.length ls).length:=by omega
      rw[hCL] at hcl
      obtain⟨r1,r2,r3,r4⟩:=hr (by omega)
      have hR:=r11_Raise p q g h (rKs N.length M ls) (rZs N.length M ls) (some ⟨g1,0,none⟩) (some ⟨g2,0,none⟩) c1 c2 m (fun e=>by have:=hK.kl;rw[e] at this;simp at this;omega) hK.nd hK.lt (by rw[hK.kl];omega) hK.zs (by rw[hK.kl,hK.zl]) hm1 hm3 hmq hp hq hp1
      rw[hK.kl,hK.zl] at hR
      clear hok hdi hr hK
      subst hTL hA1 hA2
      obtain⟨L,hL⟩ : ∃ L,C.length=L+1:=⟨C.length - 1,by omega⟩
      rw[hL] at r2 r4 ⊢
      have hMc1:M≤c1:=by omega
      have hMc2:M≤c2:=by omega
      try dsimp only[agV,naL,iaL,List.nil_append,List.cons_append]
      generalize hKK:C.flatMap kI++mkz (c1 - (L+1)) [.int .i64 0]=KK
      generalize hZZ:C.flatMap zI++mkz (c2 - (L+1)) (numC 0)=ZZ
      by_cases he:wtE q ((rKs N.length M ls).map (· + 1)) ((rKs N.length M ls).map (· + 1)).length=0
      · have hRx:Fn Tryz.prog 31 [grpV p q g h,.slice (some ⟨g1,0,none⟩) M c1,.slice (some ⟨g2,0,none⟩) M c2,.int .i64 (m:Int)] (fun w=>RdF intC (.slice (some ⟨g1,0,none⟩) M c1) (rKs N.length M ls) w∧RdF numC (.slice (some ⟨g2,0,none⟩) M c2) (rZs N.length M ls) w)
            (Ex (fun x=>.tuple #[.slice (some ⟨x 0,0,none⟩) m (x 1),.int .i64 0]) (fun x=>[⟨x 0,24,(rsL p q ((rKs N.length M ls).map (· + 1)) (rZs N.length M ls) m).flatMap numC++mkz (x 1 - m) (numC 0)⟩]) (fun x=>m≤x 1)):=by
          refine hR.weak (fun w hw=>hw) (fun v N hv=>?_)
          rcases hv with ⟨h,_⟩|⟨_,g,c,h0,h,h'⟩
          · exact absurd he h
          · exact⟨fun k=>if k=0 then g else c,h,h',h0⟩
        clear hR
        have hpost:∀ (gW cW:Nat),m≤cW→RsP (raiseB p q g h (F:Int) (m:Int) N ls) (r16Y p q N ls M m) (.tuple #[.slice (some ⟨gW,0,none⟩) m cW,.int .i64 0]) [⟨gW,24,(rsL p q ((rKs N.length M ls).map (· + 1)) (rZs N.length M ls) m).flatMap numC++mkz (cW - m) (numC 0)⟩]:=fun gW cW hW=>RsP.ok hB (.inr ⟨he,gW,cW,hW,rfl,rfl⟩)
        generalize (rsL p q ((rKs N.length M ls).map (· + 1)) (rZs N.length M ls) m).flatMap numC=RS at *
        repeat (first|refine Ta ?_|(refine Tm ?_;intro _)|refine Tc ?_|exact Tz)
        refine WC.dF rfl (by omega) ?_
        repeat (first|refine WO.does (does_add rfl rfl hadd) ?_|refine Ta ?_|(refine Tm ?_;intro _)|refine Tc ?_|exact Tz)
        refine WC.adraw 15 (k:=?_)
        iterate 10 (first|refine DQ.does (fun s _=>does_sliceTo (h:=M) rfl rfl (by omega)) Dp.const ?_|refine Da ?_|refine Dc ?_)
        refine DQ.callsE (fs:=fun _=>[]) (cs:=fun _=>[]) (R:=fun _ w=>RdF intC (.slice (some ⟨g1,0,none⟩) M c1) (rKs N.length M ls) w∧RdF numC (.slice (some ⟨g2,0,none⟩) M c2) (rZs N.length M ls) w) (vf:=fun _ x=>.tuple #[.slice (some ⟨x 0,0,none⟩) m (x 1),.int .i64 0]) (Nf:=fun _ x=>[⟨x 0,24,RS++mkz (x 1 - m) (numC 0)⟩]) (S:=fun _ x=>m≤x 1) (fun _=>[]) (fun _=>.nil)
          (fun _=>⟨fun _=>m,Nat.le_refl _⟩) (fun _ _=>hRx) (fun _=>rfl) (fun _=>rfl) (fun _=>by simp) (fun _ _ w hm=>⟨rd_ks (r:=mkz (c1 - (L+1)) [.int .i64 0]) (by rw[hCL,hKK];exact Hs.seg (by repeat (first|exact Hs.here|apply Hs.there)) hm) hMC,rd_zs (r:=mkz (c2 - (L+1)) (numC 0)) (by rw[hCL,hZZ];exact Hs.seg (by repeat (first|exact Hs.here|apply Hs.there)) hm) hMC⟩) Dp.const Dp.const Dp.const ?_
        try dsimp only[List.map_cons,List.map_nil,List.cons_append,List.nil_append]
        iterate 4 (refine DQ.auto (k:=?_))
        refine DQ.anil (k:=?_)
        intro sx hsx
        have hW:m≤sx 10 1:=hsx.2
        generalize sx 10 0=gW at *
        generalize sx 10 1=cW at *
        repeat (first|refine Ta ?_|(refine Tm ?_;intro _)|refine Tc ?_|exact Tz)
        exact WX.ret2 rfl (by exact rv_tmp rfl) (by exact rv_tmp rfl) [⟨gW,24,RS++mkz (cW - m) (numC 0)⟩] (Lle.cons (by repeat (first|exact Pk.here|apply Pk.there)) rfl Lle.nil) (hpost gW cW hW)
      · have hRx:Fn Tryz.prog 31 [grpV p q g h,.slice (some ⟨g1,0,none⟩) M c1,.slice (some ⟨g2,0,none⟩) M c2,.int .i64 (m:Int)] (fun w=>RdF intC (.slice (some ⟨g1,0,none⟩) M c1) (rKs N.length M ls) w∧RdF numC (.slice (some ⟨g2,0,none⟩) M c2) (rZs N.length M ls) w) (Is (.tuple #[.slice none 0 0,.int .i64 7])):=by
          refine hR.weak (fun w hw=>hw) (fun v N hv=>?_)
          rcases hv with ⟨_,h,_⟩|⟨h,_⟩
          · exact h
          · exact absurd h he
        clear hR
        have hpost:RsP (raiseB p q g h (F:Int) (m:Int) N ls) (r16Y p q N ls M m) (.tuple #[.slice none 0 0,.int .i64 7]) []:=RsP.ok hB (.inl ⟨he,rfl,rfl⟩)
        repeat (first|refine Ta ?_|(refine Tm ?_;intro _)|refine Tc ?_|exact Tz)
        refine WC.dF rfl (by omega) ?_
        repeat (first|refine WO.does (does_add rfl rfl hadd) ?_|refine Ta ?_|(refine Tm ?_;intro _)|refine Tc ?_|exact Tz)
        refine WC.adraw 15 (k:=?_)
        iterate 10 (first|refine DQ.does (fun s _=>does_sliceTo (h:=M) rfl rfl (by omega)) Dp.const ?_|refine Da ?_|refine Dc ?_)
        refine DQ.acallM (hc:=hRx) (hR:=fun w hm=>⟨rd_ks (r:=mkz (c1 - (L+1)) [.int .i64 0]) (by rw[hCL,hKK];exact Hs.seg (by repeat (first|exact Hs.here|apply Hs.there)) hm) hMC,rd_zs (r:=mkz (c2 - (L+1)) (numC 0)) (by rw[hCL,hZZ];exact Hs.seg (by repeat (first|exact Hs.here|apply Hs.there)) hm) hMC⟩) (k:=?_)
        iterate 4 (refine DQ.auto (k:=?_))
        refine DQ.anil (k:=?_)
        intro sx _
        repeat (first|refine Ta ?_|(refine Tm ?_;intro _)|refine Tc ?_|exact Tz)
        exact WX.ret2 rfl (by exact rv_tmp rfl) (by exact rv_tmp rfl) [] Lle.nil hpost
end
end Sx
end Go.Proofs.YtiiacjladnljhaaGreatDoor
