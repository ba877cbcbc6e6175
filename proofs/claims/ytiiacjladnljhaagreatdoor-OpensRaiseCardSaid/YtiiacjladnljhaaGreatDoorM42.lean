/- Part 42 of the proof: OrE, BkB, BkC, BkD -/
import Derived.Test.YtiiacjladnljhaaGreatDoorM40
import Derived.Test.YtiiacjladnljhaaGreatDoorM41
import Derived.Test.YtiiacjladnljhaaGreatDoorM36
import Derived.Test.YtiiacjladnljhaaGreatDoorM34
import Derived.Test.YtiiacjladnljhaaGreatDoorM21
import Derived.Test.YtiiacjladnljhaaGreatDoorM17
import Derived.Test.YtiiacjladnljhaaGreatDoorM27
set_option linter.unusedSimpArgs false
set_option linter.unusedVariables false
namespace Go.Proofs.YtiiacjladnljhaaGreatDoor
open Go Go.RowKit Go.BigFrame
namespace Sx
attribute [local irreducible] wd DQ DQS WO WC WX
section
variable (p q g h:Nat) (f sec:Int) (N:List (Nat × Nat)) (ls:List Od)
theorem r16_RaiseN (pt:Option Addr) (c:Nat) (pl:Option Addr) (cl:Nat) (hp:p<B256) (hq:q<B256) (hg:g<B256) (hh:h<B256) (hN:NumsOk N) (hNl:N.length≤100)
    (hf1 : -9223372036854775808≤f) (hf2:f≤9223372036854775807) (hs1 : -9223372036854775808≤sec) (hs2:sec≤9223372036854775807) (hA:setB p q g h f sec N=false) :
    Fn Tryz.prog 9 [stV p q g h f sec (.slice pt N.length c),.slice pl ls.length cl] (fun w=>RdF keyC (.slice pt N.length c) N w∧RdF odC (.slice pl ls.length cl) ls w) (Is nilE):=by
  have hS:=r15_Setting p q g h f sec pt c N hp hq hg hh hN (by omega) hf1 hf2 hs1 hs2
  rw[hA] at hS
  refine Fn.enter Tryz.func9 rfl rfl rfl ?_
  intro w hw
  obtain⟨hwK,hwY⟩:=hw
  repeat (first|refine WO.acallR (hc:=hS) (hR:=fun w hm=>(hwK.mod hm.mod).rdK) (k:=?_)|refine Ta ?_|(refine Tm ?_;intro _)|refine Tc ?_|exact Tz)
  done
theorem r16_RaiseL (pt:Option Addr) (c:Nat) (pl:Option Addr) (cl:Nat) (F m:Nat) (hp:p<B256) (hq:q<B256) (hg:g<B256) (hh:h<B256) (hN:NumsOk N) (hNl:N.length≤100) (hn:ls.length≤100)
    (hs:setB p q g h (F:Int) (m:Int) N=true) (hl:ls.length<F+m) :
    Fn Tryz.prog 9 [stV p q g h (F:Int) (m:Int) (.slice pt N.length c),.slice pl ls.length cl] (fun w=>RdF keyC (.slice pt N.length c) N w∧RdF odC (.slice pl ls.length cl) ls w) (Is nilE):=by
  have hsp:=setB_spec hs
  have hsm:=setB_more hs
  have hS:=r15_Setting p q g h (F:Int) (m:Int) pt c N hp hq hg hh hN (by omega) (by omega) (by omega) (by omega) (by omega)
  rw[hs] at hS
  have hadd:IntKind.i64.wrap ((F:Int)+(m:Int))=((F+m:Nat):Int):=by rw[show (F:Int)+(m:Int)=((F+m:Nat):Int) by omega];exact i64_in (by omega) (by omega)
  have hlt:((ls.length:Nat):Int)<((F+m:Nat):Int):=by omega
  refine Fn.enter Tryz.func9 rfl rfl rfl ?_
  intro w hw
  obtain⟨hwK,hwY⟩:=hw
  repeat (first|refine WO.acallR (hc:=hS) (hR:=fun w hm=>(hwK.mod hm.mod).rdK) (k:=?_)|refine WO.does (does_add rfl rfl hadd) ?_|refine WO.does (does_lssY rfl rfl hlt) ?_|refine Ta ?_|(refine Tm ?_;intro _)|refine Tc ?_|exact Tz)
  done
def RaiseM (p q g h:Nat) (f sec:Int) (N:List (Nat × Nat)) (ls:List Od):Prop:=∃ (m:Nat) (As:List Nat),sec=(m:Int)∧m≤3∧As.length=m ∧
  (∀ (pt:Option Addr) (c:Nat) (pl:Option Addr) (cl:Nat),Fn Tryz.prog 8 [stV p q g h f sec (.slice pt N.length c),.slice pl ls.length cl] (fun w=>RdF keyC (.slice pt N.length c) N w∧RdF odC (.slice pl ls.length cl) ls w) (Ex (fun s=>.tuple #[.slice (some ⟨s 0,0,none⟩) m m,.int .i64 0]) (fun s=>[⟨s 0,24,As.flatMap numC⟩]) (fun _=>True))) ∧
  (∀ (pt:Option Addr) (c:Nat) (pl:Option Addr) (cl:Nat),Fn Tryz.prog 9 [stV p q g h f sec (.slice pt N.length c),.slice pl ls.length cl] (fun w=>RdF keyC (.slice pt N.length c) N w∧RdF odC (.slice pl ls.length cl) ls w) (NewG m (As.flatMap numC)))
def RaiseE (p q g h:Nat) (f sec:Int) (N:List (Nat × Nat)) (ls:List Od):Prop:=∃ (e:Int),
  (∀ (pt:Option Addr) (c:Nat) (pl:Option Addr) (cl:Nat),Fn Tryz.prog 8 [stV p q g h f sec (.slice pt N.length c),.slice pl ls.length cl] (fun w=>RdF keyC (.slice pt N.length c) N w∧RdF odC (.slice pl ls.length cl) ls w) (Is (.tuple #[.slice none 0 0,.int .i64 e]))) ∧
  (∀ (pt:Option Addr) (c:Nat) (pl:Option Addr) (cl:Nat),Fn Tryz.prog 9 [stV p q g h f sec (.slice pt N.length c),.slice pl ls.length cl] (fun w=>RdF keyC (.slice pt N.length c) N w∧RdF odC (.slice pl ls.length cl) ls w) (Is (.tuple #[.slice none 0 0,.int .i64 e])))
theorem raise_cases (hp:p<B256) (hq:q<B256) (hg:g<B256) (hh:h<B256) (hN:NumsOk N) (hNl:N.length≤100) (hls:∀ o∈ls,OdOk o) (hn:ls.length≤100)
    (hf1 : -9223372036854775808≤f) (hf2:f≤9223372036854775807) (hs1 : -9223372036854775808≤sec) (hs2:sec≤9223372036854775807) :
    RaiseM p q g h f sec N ls∨RaiseE p q g h f sec N ls:=by
  cases hs:setB p q g h f sec N with
  | false=>exact .inr ⟨1,fun pt c pl cl=>c_ORaiseN p q g h pt c N pl cl ls f sec hp hq hg hh hN hNl hf1 hf2 hs1 hs2 hs,fun pt c pl cl=>r16_RaiseN p q g h f sec N ls pt c pl cl hp hq hg hh hN hNl hf1 hf2 hs1 hs2 hs⟩
  | true =>
    have hsp:=setB_spec hs
    have hsm:=setB_more hs
    obtain⟨F,rfl⟩ : ∃ F:Nat,f=(F:Int):=⟨f.toNat,by omega⟩
    obtain⟨m,rfl⟩ : ∃ m:Nat,sec=(m:Int):=⟨sec.toNat,by omega⟩
    by_cases h1:ls.length<F+m
    · exact .inr ⟨1,fun pt c pl cl=>c_ORaiseL p q g h pt c N pl cl ls F m hp hq hg hh hN hNl hn hs (.inl h1),fun pt c pl cl=>r16_RaiseL p q g h N ls pt c pl cl F m hp hq hg hh hN hNl hn hs h1⟩
    · have hR2:=fun pt c pl cl=>r16_RaiseY p q g h pt c N pl cl ls F m hp hq hg hh hN hNl hls hn hs (by omega)
      by_cases h2:N.length<ls.length
      · refine .inr ⟨1,fun pt c pl cl=>c_ORaiseL p q g h pt c N pl cl ls F m hp hq hg hh hN hNl hn hs (.inr h2),fun pt c pl cl=>?_⟩
        have hb:=raiseB_many p q g h N ls h2 (f:=(F:Int)) (sec:=(m:Int))
        exact (hR2 pt c pl cl).weak (fun _ hw=>hw) (fun v L hv=>hv.2 hb)
      · have hR1:=fun pt c pl cl=>c_ORaiseY p q g h pt c N pl cl ls F m hp hq hg hh hN hNl hls hn hs (by omega) (by omega)
        cases hb:raiseB p q g h (F:Int) (m:Int) N ls with
        | false=>exact .inr ⟨1,fun pt c pl cl=>(hR1 pt c pl cl).weak (fun _ hw=>hw) (fun v L hv=>hv.2 hb),fun pt c pl cl=>(hR2 pt c pl cl).weak (fun _ hw=>hw) (fun v L hv=>hv.2 hb)⟩
        | true =>
          by_cases he:wtE q ((rKs N.length (F+m) ls).map (· + 1)) ((rKs N.length (F+m) ls).map (· + 1)).length=0
          · refine .inl ⟨m,rsL p q ((rKs N.length (F+m) ls).map (· + 1)) (rZs N.length (F+m) ls) m,rfl,by omega,by simp[rsL],fun pt c pl cl=>(hR1 pt c pl cl).weak (fun _ hw=>hw) (fun v L hv=>?_),fun pt c pl cl=>(hR2 pt c pl cl).weak (fun _ hw=>hw) (fun v L hv=>?_)⟩
            · rcases hv.1 hb with ⟨h,_⟩|⟨_,g',h,h'⟩
              · exact absurd he h
              · exact⟨fun _=>g',h,h',trivial⟩
            · rcases hv.1 hb with ⟨h,_⟩|⟨_,g',c',h0,h,h'⟩
              · exact absurd he h
              · exact⟨g',c',_,h,h'⟩
          · refine .inr ⟨7,fun pt c pl cl=>(hR1 pt c pl cl).weak (fun _ hw=>hw) (fun v L hv=>?_),fun pt c pl cl=>(hR2 pt c pl cl).weak (fun _ hw=>hw) (fun v L hv=>?_)⟩
            · rcases hv.1 hb with ⟨_,h,h'⟩|⟨h,_⟩
              · exact h
              · exact absurd h he
            · rcases hv.1 hb with ⟨_,h,h'⟩|⟨h,_⟩
              · exact h
              · exact absurd h he
end
end Sx
end Go.Proofs.YtiiacjladnljhaaGreatDoor
namespace Go.Proofs.YtiiacjladnljhaaGreatDoor
open Go Go.RowKit Go.BigFrame
namespace Sx
attribute [local irreducible] wd DQ DQS WO WC WX
abbrev bkC (m:Nat) (a b c d:Value):List Value:=[.int .i64 (m:Int),.slice none 0 0,.slice none 0 0,.slice none 0 0,a,.slice none 0 0,.slice none 0 0,b,c,.slice none 0 0,d,.slice none 0 0,.slice none 0 0,.slice none 0 0,.slice none 0 0,.slice none 0 0,.slice none 0 0,.slice none 0 0]
section
variable (m:Nat) (a b c d:Value) (bk:Nat)
theorem k_fillByte:FnL Tryz.prog 40 [pt bk] [] (fun w=>Seg w bk 0 (bkC m a b c (d))) (fun v N=>v=.tuple #[]∧N=[]):=by
  refine FnL.enter Tryz.func40 rfl rfl rfl ?_
  intro w hw
  repeat (first|refine WC.loopU 1 ?_|refine Ta ?_|(refine Tm ?_;intro _)|refine WO.does (a_loadF (vs:=[.slice none 0 0]) (hs:=hw) (hle:=Nat.zero_le _) (hc:=rfl)) ?_|refine Tc ?_|exact Tz)
  exact WX.retP_ofN (resP0 rfl) Lle.nil ⟨rfl,rfl⟩
theorem k_growByte:FnL Tryz.prog 57 [pt bk] [] (fun w=>Seg w bk 0 (bkC m a b c (d))) (fun v N=>v=.tuple #[]∧N=[]):=by
  refine FnL.enter Tryz.func57 rfl rfl rfl ?_
  intro w hw
  repeat (first|refine WC.loopU 1 ?_|refine Ta ?_|(refine Tm ?_;intro _)|refine WO.does (a_loadF (vs:=[.slice none 0 0]) (hs:=hw) (hle:=Nat.zero_le _) (hc:=rfl)) ?_|refine Tc ?_|exact Tz)
  exact WX.retP_ofN (resP0 rfl) Lle.nil ⟨rfl,rfl⟩
theorem k_lookByte:Fn Tryz.prog 74 [pt bk] (fun w=>Seg w bk 0 (bkC m a b c (d))) (Is (.bool true)):=by
  refine Fn.enter Tryz.func74 rfl rfl rfl ?_
  intro w hw
  repeat (first|refine WC.loopU 1 ?_|refine Ta ?_|(refine Tm ?_;intro _)|refine WO.does (a_loadF (vs:=[.slice none 0 0]) (hs:=hw) (hle:=Nat.zero_le _) (hc:=rfl)) ?_|refine Tc ?_|exact Tz)
theorem k_fillInt:FnL Tryz.prog 41 [pt bk] [] (fun w=>Seg w bk 0 (bkC m a b c (d))) (fun v N=>v=.tuple #[]∧N=[]):=by
  refine FnL.enter Tryz.func41 rfl rfl rfl ?_
  intro w hw
  repeat (first|refine WC.loopU 1 ?_|refine Ta ?_|(refine Tm ?_;intro _)|refine WO.does (a_loadF (vs:=[.slice none 0 0]) (hs:=hw) (hle:=Nat.zero_le _) (hc:=rfl)) ?_|refine Tc ?_|exact Tz)
  exact WX.retP_ofN (resP0 rfl) Lle.nil ⟨rfl,rfl⟩
theorem k_growInt:FnL Tryz.prog 58 [pt bk] [] (fun w=>Seg w bk 0 (bkC m a b c (d))) (fun v N=>v=.tuple #[]∧N=[]):=by
  refine FnL.enter Tryz.func58 rfl rfl rfl ?_
  intro w hw
  repeat (first|refine WC.loopU 1 ?_|refine Ta ?_|(refine Tm ?_;intro _)|refine WO.does (a_loadF (vs:=[.slice none 0 0]) (hs:=hw) (hle:=Nat.zero_le _) (hc:=rfl)) ?_|refine Tc ?_|exact Tz)
  exact WX.retP_ofN (resP0 rfl) Lle.nil ⟨rfl,rfl⟩
theorem k_lookInt:Fn Tryz.prog 75 [pt bk] (fun w=>Seg w bk 0 (bkC m a b c (d))) (Is (.bool true)):=by
  refine Fn.enter Tryz.func75 rfl rfl rfl ?_
  intro w hw
  repeat (first|refine WC.loopU 1 ?_|refine Ta ?_|(refine Tm ?_;intro _)|refine WO.does (a_loadF (vs:=[.slice none 0 0]) (hs:=hw) (hle:=Nat.zero_le _) (hc:=rfl)) ?_|refine Tc ?_|exact Tz)
theorem k_fillText:FnL Tryz.prog 42 [pt bk] [] (fun w=>Seg w bk 0 (bkC m a b c (d))) (fun v N=>v=.tuple #[]∧N=[]):=by
  refine FnL.enter Tryz.func42 rfl rfl rfl ?_
  intro w hw
  repeat (first|refine WC.loopU 1 ?_|refine Ta ?_|(refine Tm ?_;intro _)|refine WO.does (a_loadF (vs:=[.slice none 0 0]) (hs:=hw) (hle:=Nat.zero_le _) (hc:=rfl)) ?_|refine Tc ?_|exact Tz)
  exact WX.retP_ofN (resP0 rfl) Lle.nil ⟨rfl,rfl⟩
theorem k_growText:FnL Tryz.prog 59 [pt bk] [] (fun w=>Seg w bk 0 (bkC m a b c (d))) (fun v N=>v=.tuple #[]∧N=[]):=by
  refine FnL.enter Tryz.func59 rfl rfl rfl ?_
  intro w hw
  repeat (first|refine WC.loopU 1 ?_|refine Ta ?_|(refine Tm ?_;intro _)|refine WO.does (a_loadF (vs:=[.slice none 0 0]) (hs:=hw) (hle:=Nat.zero_le _) (hc:=rfl)) ?_|refine Tc ?_|exact Tz)
  exact WX.retP_ofN (resP0 rfl) Lle.nil ⟨rfl,rfl⟩
theorem k_lookText:Fn Tryz.prog 76 [pt bk] (fun w=>Seg w bk 0 (bkC m a b c (d))) (Is (.bool true)):=by
  refine Fn.enter Tryz.func76 rfl rfl rfl ?_
  intro w hw
  repeat (first|refine WC.loopU 1 ?_|refine Ta ?_|(refine Tm ?_;intro _)|refine WO.does (a_loadF (vs:=[.slice none 0 0]) (hs:=hw) (hle:=Nat.zero_le _) (hc:=rfl)) ?_|refine Tc ?_|exact Tz)
theorem k_fillHash:FnL Tryz.prog 44 [pt bk] [] (fun w=>Seg w bk 0 (bkC m a b c (d))) (fun v N=>v=.tuple #[]∧N=[]):=by
  refine FnL.enter Tryz.func44 rfl rfl rfl ?_
  intro w hw
  repeat (first|refine WC.loopU 1 ?_|refine Ta ?_|(refine Tm ?_;intro _)|refine WO.does (a_loadF (vs:=[.slice none 0 0]) (hs:=hw) (hle:=Nat.zero_le _) (hc:=rfl)) ?_|refine Tc ?_|exact Tz)
  exact WX.retP_ofN (resP0 rfl) Lle.nil ⟨rfl,rfl⟩
theorem k_growHash:FnL Tryz.prog 61 [pt bk] [] (fun w=>Seg w bk 0 (bkC m a b c (d))) (fun v N=>v=.tuple #[]∧N=[]):=by
  refine FnL.enter Tryz.func61 rfl rfl rfl ?_
  intro w hw
  repeat (first|refine WC.loopU 1 ?_|refine Ta ?_|(refine Tm ?_;intro _)|refine WO.does (a_loadF (vs:=[.slice none 0 0]) (hs:=hw) (hle:=Nat.zero_le _) (hc:=rfl)) ?_|refine Tc ?_|exact Tz)
  exact WX.retP_ofN (resP0 rfl) Lle.nil ⟨rfl,rfl⟩
theorem k_lookHash:Fn Tryz.prog 78 [pt bk] (fun w=>Seg w bk 0 (bkC m a b c (d))) (Is (.bool true)):=by
  refine Fn.enter Tryz.func78 rfl rfl rfl ?_
  intro w hw
  repeat (first|refine WC.loopU 1 ?_|refine Ta ?_|(refine Tm ?_;intro _)|refine WO.does (a_loadF (vs:=[.slice none 0 0]) (hs:=hw) (hle:=Nat.zero_le _) (hc:=rfl)) ?_|refine Tc ?_|exact Tz)
theorem k_fillReason:FnL Tryz.prog 45 [pt bk] [] (fun w=>Seg w bk 0 (bkC m a b c (d))) (fun v N=>v=.tuple #[]∧N=[]):=by
  refine FnL.enter Tryz.func45 rfl rfl rfl ?_
  intro w hw
  repeat (first|refine WC.loopU 1 ?_|refine Ta ?_|(refine Tm ?_;intro _)|refine WO.does (a_loadF (vs:=[.slice none 0 0]) (hs:=hw) (hle:=Nat.zero_le _) (hc:=rfl)) ?_|refine Tc ?_|exact Tz)
  exact WX.retP_ofN (resP0 rfl) Lle.nil ⟨rfl,rfl⟩
theorem k_growReason:FnL Tryz.prog 62 [pt bk] [] (fun w=>Seg w bk 0 (bkC m a b c (d))) (fun v N=>v=.tuple #[]∧N=[]):=by
  refine FnL.enter Tryz.func62 rfl rfl rfl ?_
  intro w hw
  repeat (first|refine WC.loopU 1 ?_|refine Ta ?_|(refine Tm ?_;intro _)|refine WO.does (a_loadF (vs:=[.slice none 0 0]) (hs:=hw) (hle:=Nat.zero_le _) (hc:=rfl)) ?_|refine Tc ?_|exact Tz)
  exact WX.retP_ofN (resP0 rfl) Lle.nil ⟨rfl,rfl⟩
theorem k_lookReason:Fn Tryz.prog 79 [pt bk] (fun w=>Seg w bk 0 (bkC m a b c (d))) (Is (.bool true)):=by
  refine Fn.enter Tryz.func79 rfl rfl rfl ?_
  intro w hw
  repeat (first|refine WC.loopU 1 ?_|refine Ta ?_|(refine Tm ?_;intro _)|refine WO.does (a_loadF (vs:=[.slice none 0 0]) (hs:=hw) (hle:=Nat.zero_le _) (hc:=rfl)) ?_|refine Tc ?_|exact Tz)
theorem k_fillDealing:FnL Tryz.prog 48 [pt bk] [] (fun w=>Seg w bk 0 (bkC m a b c (d))) (fun v N=>v=.tuple #[]∧N=[]):=by
  refine FnL.enter Tryz.func48 rfl rfl rfl ?_
  intro w hw
  repeat (first|refine WC.loopU 1 ?_|refine Ta ?_|(refine Tm ?_;intro _)|refine WO.does (a_loadF (vs:=[.slice none 0 0]) (hs:=hw) (hle:=Nat.zero_le _) (hc:=rfl)) ?_|refine Tc ?_|exact Tz)
  exact WX.retP_ofN (resP0 rfl) Lle.nil ⟨rfl,rfl⟩
theorem k_growDealing:FnL Tryz.prog 65 [pt bk] [] (fun w=>Seg w bk 0 (bkC m a b c (d))) (fun v N=>v=.tuple #[]∧N=[]):=by
  refine FnL.enter Tryz.func65 rfl rfl rfl ?_
  intro w hw
  repeat (first|refine WC.loopU 1 ?_|refine Ta ?_|(refine Tm ?_;intro _)|refine WO.does (a_loadF (vs:=[.slice none 0 0]) (hs:=hw) (hle:=Nat.zero_le _) (hc:=rfl)) ?_|refine Tc ?_|exact Tz)
  exact WX.retP_ofN (resP0 rfl) Lle.nil ⟨rfl,rfl⟩
theorem k_lookDealing:Fn Tryz.prog 82 [pt bk] (fun w=>Seg w bk 0 (bkC m a b c (d))) (Is (.bool true)):=by
  refine Fn.enter Tryz.func82 rfl rfl rfl ?_
  intro w hw
  repeat (first|refine WC.loopU 1 ?_|refine Ta ?_|(refine Tm ?_;intro _)|refine WO.does (a_loadF (vs:=[.slice none 0 0]) (hs:=hw) (hle:=Nat.zero_le _) (hc:=rfl)) ?_|refine Tc ?_|exact Tz)
theorem k_fillShown:FnL Tryz.prog 50 [pt bk] [] (fun w=>Seg w bk 0 (bkC m a b c (d))) (fun v N=>v=.tuple #[]∧N=[]):=by
  refine FnL.enter Tryz.func50 rfl rfl rfl ?_
  intro w hw
  repeat (first|refine WC.loopU 1 ?_|refine Ta ?_|(refine Tm ?_;intro _)|refine WO.does (a_loadF (vs:=[.slice none 0 0]) (hs:=hw) (hle:=Nat.zero_le _) (hc:=rfl)) ?_|refine Tc ?_|exact Tz)
  exact WX.retP_ofN (resP0 rfl) Lle.nil ⟨rfl,rfl⟩
theorem k_growShown:FnL Tryz.prog 67 [pt bk] [] (fun w=>Seg w bk 0 (bkC m a b c (d))) (fun v N=>v=.tuple #[]∧N=[]):=by
  refine FnL.enter Tryz.func67 rfl rfl rfl ?_
  intro w hw
  repeat (first|refine WC.loopU 1 ?_|refine Ta ?_|(refine Tm ?_;intro _)|refine WO.does (a_loadF (vs:=[.slice none 0 0]) (hs:=hw) (hle:=Nat.zero_le _) (hc:=rfl)) ?_|refine Tc ?_|exact Tz)
  exact WX.retP_ofN (resP0 rfl) Lle.nil ⟨rfl,rfl⟩
theorem k_lookShown:Fn Tryz.prog 84 [pt bk] (fun w=>Seg w bk 0 (bkC m a b c (d))) (Is (.bool true)):=by
  refine Fn.enter Tryz.func84 rfl rfl rfl ?_
  intro w hw
  repeat (first|refine WC.loopU 1 ?_|refine Ta ?_|(refine Tm ?_;intro _)|refine WO.does (a_loadF (vs:=[.slice none 0 0]) (hs:=hw) (hle:=Nat.zero_le _) (hc:=rfl)) ?_|refine Tc ?_|exact Tz)
theorem k_fillVote:FnL Tryz.prog 51 [pt bk] [] (fun w=>Seg w bk 0 (bkC m a b c (d))) (fun v N=>v=.tuple #[]∧N=[]):=by
  refine FnL.enter Tryz.func51 rfl rfl rfl ?_
  intro w hw
  repeat (first|refine WC.loopU 1 ?_|refine Ta ?_|(refine Tm ?_;intro _)|refine WO.does (a_loadF (vs:=[.slice none 0 0]) (hs:=hw) (hle:=Nat.zero_le _) (hc:=rfl)) ?_|refine Tc ?_|exact Tz)
  exact WX.retP_ofN (resP0 rfl) Lle.nil ⟨rfl,rfl⟩
theorem k_growVote:FnL Tryz.prog 68 [pt bk] [] (fun w=>Seg w bk 0 (bkC m a b c (d))) (fun v N=>v=.tuple #[]∧N=[]):=by
  refine FnL.enter Tryz.func68 rfl rfl rfl ?_
  intro w hw
  repeat (first|refine WC.loopU 1 ?_|refine Ta ?_|(refine Tm ?_;intro _)|refine WO.does (a_loadF (vs:=[.slice none 0 0]) (hs:=hw) (hle:=Nat.zero_le _) (hc:=rfl)) ?_|refine Tc ?_|exact Tz)
  exact WX.retP_ofN (resP0 rfl) Lle.nil ⟨rfl,rfl⟩
theorem k_lookVote:Fn Tryz.prog 85 [pt bk] (fun w=>Seg w bk 0 (bkC m a b c (d))) (Is (.bool true)):=by
  refine Fn.enter Tryz.func85 rfl rfl rfl ?_
  intro w hw
  repeat (first|refine WC.loopU 1 ?_|refine Ta ?_|(refine Tm ?_;intro _)|refine WO.does (a_loadF (vs:=[.slice none 0 0]) (hs:=hw) (hle:=Nat.zero_le _) (hc:=rfl)) ?_|refine Tc ?_|exact Tz)
theorem k_fillBlock:FnL Tryz.prog 52 [pt bk] [] (fun w=>Seg w bk 0 (bkC m a b c (d))) (fun v N=>v=.tuple #[]∧N=[]):=by
  refine FnL.enter Tryz.func52 rfl rfl rfl ?_
  intro w hw
  repeat (first|refine WC.loopU 1 ?_|refine Ta ?_|(refine Tm ?_;intro _)|refine WO.does (a_loadF (vs:=[.slice none 0 0]) (hs:=hw) (hle:=Nat.zero_le _) (hc:=rfl)) ?_|refine Tc ?_|exact Tz)
  exact WX.retP_ofN (resP0 rfl) Lle.nil ⟨rfl,rfl⟩
theorem k_growBlock:FnL Tryz.prog 69 [pt bk] [] (fun w=>Seg w bk 0 (bkC m a b c (d))) (fun v N=>v=.tuple #[]∧N=[]):=by
  refine FnL.enter Tryz.func69 rfl rfl rfl ?_
  intro w hw
  repeat (first|refine WC.loopU 1 ?_|refine Ta ?_|(refine Tm ?_;intro _)|refine WO.does (a_loadF (vs:=[.slice none 0 0]) (hs:=hw) (hle:=Nat.zero_le _) (hc:=rfl)) ?_|refine Tc ?_|exact Tz)
  exact WX.retP_ofN (resP0 rfl) Lle.nil ⟨rfl,rfl⟩
theorem k_lookBlock:Fn Tryz.prog 86 [pt bk] (fun w=>Seg w bk 0 (bkC m a b c (d))) (Is (.bool true)):=by
  refine Fn.enter Tryz.func86 rfl rfl rfl ?_
  intro w hw
  repeat (first|refine WC.loopU 1 ?_|refine Ta ?_|(refine Tm ?_;intro _)|refine WO.does (a_loadF (vs:=[.slice none 0 0]) (hs:=hw) (hle:=Nat.zero_le _) (hc:=rfl)) ?_|refine Tc ?_|exact Tz)
theorem k_fillEvidence:FnL Tryz.prog 53 [pt bk] [] (fun w=>Seg w bk 0 (bkC m a b c (d))) (fun v N=>v=.tuple #[]∧N=[]):=by
  refine FnL.enter Tryz.func53 rfl rfl rfl ?_
  intro w hw
  repeat (first|refine WC.loopU 1 ?_|refine Ta ?_|(refine Tm ?_;intro _)|refine WO.does (a_loadF (vs:=[.slice none 0 0]) (hs:=hw) (hle:=Nat.zero_le _) (hc:=rfl)) ?_|refine Tc ?_|exact Tz)
  exact WX.retP_ofN (resP0 rfl) Lle.nil ⟨rfl,rfl⟩
theorem k_growEvidence:FnL Tryz.prog 70 [pt bk] [] (fun w=>Seg w bk 0 (bkC m a b c (d))) (fun v N=>v=.tuple #[]∧N=[]):=by
  refine FnL.enter Tryz.func70 rfl rfl rfl ?_
  intro w hw
  repeat (first|refine WC.loopU 1 ?_|refine Ta ?_|(refine Tm ?_;intro _)|refine WO.does (a_loadF (vs:=[.slice none 0 0]) (hs:=hw) (hle:=Nat.zero_le _) (hc:=rfl)) ?_|refine Tc ?_|exact Tz)
  exact WX.retP_ofN (resP0 rfl) Lle.nil ⟨rfl,rfl⟩
theorem k_lookEvidence:Fn Tryz.prog 87 [pt bk] (fun w=>Seg w bk 0 (bkC m a b c (d))) (Is (.bool true)):=by
  refine Fn.enter Tryz.func87 rfl rfl rfl ?_
  intro w hw
  repeat (first|refine WC.loopU 1 ?_|refine Ta ?_|(refine Tm ?_;intro _)|refine WO.does (a_loadF (vs:=[.slice none 0 0]) (hs:=hw) (hle:=Nat.zero_le _) (hc:=rfl)) ?_|refine Tc ?_|exact Tz)
theorem k_fillMsg:FnL Tryz.prog 54 [pt bk] [] (fun w=>Seg w bk 0 (bkC m a b c (d))) (fun v N=>v=.tuple #[]∧N=[]):=by
  refine FnL.enter Tryz.func54 rfl rfl rfl ?_
  intro w hw
  repeat (first|refine WC.loopU 1 ?_|refine Ta ?_|(refine Tm ?_;intro _)|refine WO.does (a_loadF (vs:=[.slice none 0 0]) (hs:=hw) (hle:=Nat.zero_le _) (hc:=rfl)) ?_|refine Tc ?_|exact Tz)
  exact WX.retP_ofN (resP0 rfl) Lle.nil ⟨rfl,rfl⟩
theorem k_growMsg:FnL Tryz.prog 71 [pt bk] [] (fun w=>Seg w bk 0 (bkC m a b c (d))) (fun v N=>v=.tuple #[]∧N=[]):=by
  refine FnL.enter Tryz.func71 rfl rfl rfl ?_
  intro w hw
  repeat (first|refine WC.loopU 1 ?_|refine Ta ?_|(refine Tm ?_;intro _)|refine WO.does (a_loadF (vs:=[.slice none 0 0]) (hs:=hw) (hle:=Nat.zero_le _) (hc:=rfl)) ?_|refine Tc ?_|exact Tz)
  exact WX.retP_ofN (resP0 rfl) Lle.nil ⟨rfl,rfl⟩
theorem k_lookMsg:Fn Tryz.prog 88 [pt bk] (fun w=>Seg w bk 0 (bkC m a b c (d))) (Is (.bool true)):=by
  refine Fn.enter Tryz.func88 rfl rfl rfl ?_
  intro w hw
  repeat (first|refine WC.loopU 1 ?_|refine Ta ?_|(refine Tm ?_;intro _)|refine WO.does (a_loadF (vs:=[.slice none 0 0]) (hs:=hw) (hle:=Nat.zero_le _) (hc:=rfl)) ?_|refine Tc ?_|exact Tz)
theorem k_fillFrame:FnL Tryz.prog 55 [pt bk] [] (fun w=>Seg w bk 0 (bkC m a b c (d))) (fun v N=>v=.tuple #[]∧N=[]):=by
  refine FnL.enter Tryz.func55 rfl rfl rfl ?_
  intro w hw
  repeat (first|refine WC.loopU 1 ?_|refine Ta ?_|(refine Tm ?_;intro _)|refine WO.does (a_loadF (vs:=[.slice none 0 0]) (hs:=hw) (hle:=Nat.zero_le _) (hc:=rfl)) ?_|refine Tc ?_|exact Tz)
  exact WX.retP_ofN (resP0 rfl) Lle.nil ⟨rfl,rfl⟩
theorem k_growFrame:FnL Tryz.prog 72 [pt bk] [] (fun w=>Seg w bk 0 (bkC m a b c (d))) (fun v N=>v=.tuple #[]∧N=[]):=by
  refine FnL.enter Tryz.func72 rfl rfl rfl ?_
  intro w hw
  repeat (first|refine WC.loopU 1 ?_|refine Ta ?_|(refine Tm ?_;intro _)|refine WO.does (a_loadF (vs:=[.slice none 0 0]) (hs:=hw) (hle:=Nat.zero_le _) (hc:=rfl)) ?_|refine Tc ?_|exact Tz)
  exact WX.retP_ofN (resP0 rfl) Lle.nil ⟨rfl,rfl⟩
theorem k_lookFrame:Fn Tryz.prog 89 [pt bk] (fun w=>Seg w bk 0 (bkC m a b c (d))) (Is (.bool true)):=by
  refine Fn.enter Tryz.func89 rfl rfl rfl ?_
  intro w hw
  repeat (first|refine WC.loopU 1 ?_|refine Ta ?_|(refine Tm ?_;intro _)|refine WO.does (a_loadF (vs:=[.slice none 0 0]) (hs:=hw) (hle:=Nat.zero_le _) (hc:=rfl)) ?_|refine Tc ?_|exact Tz)
theorem k_fillRecord:FnL Tryz.prog 56 [pt bk] [] (fun w=>Seg w bk 0 (bkC m a b c (d))) (fun v N=>v=.tuple #[]∧N=[]):=by
  refine FnL.enter Tryz.func56 rfl rfl rfl ?_
  intro w hw
  repeat (first|refine WC.loopU 1 ?_|refine Ta ?_|(refine Tm ?_;intro _)|refine WO.does (a_loadF (vs:=[.slice none 0 0]) (hs:=hw) (hle:=Nat.zero_le _) (hc:=rfl)) ?_|refine Tc ?_|exact Tz)
  exact WX.retP_ofN (resP0 rfl) Lle.nil ⟨rfl,rfl⟩
theorem k_growRecord:FnL Tryz.prog 73 [pt bk] [] (fun w=>Seg w bk 0 (bkC m a b c (d))) (fun v N=>v=.tuple #[]∧N=[]):=by
  refine FnL.enter Tryz.func73 rfl rfl rfl ?_
  intro w hw
  repeat (first|refine WC.loopU 1 ?_|refine Ta ?_|(refine Tm ?_;intro _)|refine WO.does (a_loadF (vs:=[.slice none 0 0]) (hs:=hw) (hle:=Nat.zero_le _) (hc:=rfl)) ?_|refine Tc ?_|exact Tz)
  exact WX.retP_ofN (resP0 rfl) Lle.nil ⟨rfl,rfl⟩
theorem k_lookRecord:Fn Tryz.prog 90 [pt bk] (fun w=>Seg w bk 0 (bkC m a b c (d))) (Is (.bool true)):=by
  refine Fn.enter Tryz.func90 rfl rfl rfl ?_
  intro w hw
  repeat (first|refine WC.loopU 1 ?_|refine Ta ?_|(refine Tm ?_;intro _)|refine WO.does (a_loadF (vs:=[.slice none 0 0]) (hs:=hw) (hle:=Nat.zero_le _) (hc:=rfl)) ?_|refine Tc ?_|exact Tz)
end
end Sx
end Go.Proofs.YtiiacjladnljhaaGreatDoor
namespace Go.Proofs.YtiiacjladnljhaaGreatDoor
open Go Go.RowKit Go.BigFrame
namespace Sx
attribute [local irreducible] wd DQ DQS WO WC WX
abbrev heR (v:Value) (m:Nat):List Value:=[v,.slice none 0 0,.int .i64 (m:Int)]
def BkKept (bk T:Nat) (F:Value→List Value) (xs:List Value) (n:Nat) (row:List Value):Value→List Ent→Prop:=fun v N =>
  v=.tuple #[]∧∃ g c r,N=[⟨bk,68,F (.slice (some ⟨g,0,none⟩) n c)⟩,⟨g,T,xs++row++r⟩]∧(xs++row++r).length=c*3∧c<9223372036854775808∧n≤c
section
variable (m:Nat) (a b c d:Value) (bk:Nat) (pl:Option Addr) (nl cl:Nat)
set_option maxHeartbeats 1000000 in
theorem k_keepNum0 (hm:m<1000):FnL Tryz.prog 39 [pt bk,.slice pl nl cl] [⟨bk,68,bkC m (.slice none 0 0) b c d⟩] Tr
    (BkKept bk 124 (fun v=>bkC (m+1) v b c d) [] 1 (heR (.slice pl nl cl) (m+1))):=by
  have hadd:IntKind.i64.wrap ((m:Int)+1)=((m+1:Nat):Int):=i64_in' (by omega) (by omega) (by omega)
  refine FnL.enter Tryz.func39 rfl rfl rfl ?_
  intro w hw
  repeat (first|refine Ta ?_|(refine Tm ?_;intro _)|refine WO.does (does_add rfl rfl hadd) ?_|refine Tc ?_|exact Tz)
  refine WC.adrawF [0] 12 (k:=?_)
  iterate 11 (first|refine Da ?_|refine Df ?_)
  refine DQ.makes (vf:=fun _ g=>.slice (some ⟨g,0,none⟩) 1 1) (t:=124) (cs:=fun _=>heR (.slice pl nl cl) (m+1)) (fun s _=>makes_build rfl (by decide) rfl) Dp.const Dp.const ?_
  refine DQ.anil (k:=?_)
  intro sx _
  generalize sx 11 0=gT
  refine WO.appN (z:=heR (.slice none 0 0) 0) (m:=1) rfl rfl rfl (Rds.own (m:=3) Hs.here rfl) rfl (by decide) (by decide) (by decide) (by decide) (fun g1 c1 r1 a1 a2 a3=>?_)
  repeat (first|refine Ta ?_|(refine Tm ?_;intro _)|refine Tc ?_|exact Tz)
  exact WX.retP_ofN (resP0 rfl) (Lle.cons (by repeat (first|exact Pk.here|apply Pk.there)) rfl (Lle.cons (by repeat (first|exact Pk.here|apply Pk.there)) rfl Lle.nil)) ⟨rfl,g1,c1,r1,rfl,a1,a2,a3⟩
set_option maxHeartbeats 1000000 in
theorem k_keepNum1 (g n cc:Nat) (xs r:List Value) (hm:m<1000) (hn:n<1000) (hx:xs.length=n*3) (hr:(xs++r).length=cc*3) (hcc:cc<9223372036854775808) :
    FnL Tryz.prog 39 [pt bk,.slice pl nl cl] [⟨bk,68,bkC m (.slice (some ⟨g,0,none⟩) n cc) b c d⟩,⟨g,124,xs++r⟩] Tr
    (BkKept bk 124 (fun v=>bkC (m+1) v b c d) xs (n+1) (heR (.slice pl nl cl) (m+1))):=by
  have hadd:IntKind.i64.wrap ((m:Int)+1)=((m+1:Nat):Int):=i64_in' (by omega) (by omega) (by omega)
  refine FnL.enter Tryz.func39 rfl rfl rfl ?_
  intro w hw
  repeat (first|refine Ta ?_|(refine Tm ?_;intro _)|refine WO.does (does_add rfl rfl hadd) ?_|refine Tc ?_|exact Tz)
  refine WC.adrawF [0] 12 (k:=?_)
  iterate 11 (first|refine Da ?_|refine Df ?_)
  refine DQ.makes (vf:=fun _ g=>.slice (some ⟨g,0,none⟩) 1 1) (t:=124) (cs:=fun _=>heR (.slice pl nl cl) (m+1)) (fun s _=>makes_build rfl (by decide) rfl) Dp.const Dp.const ?_
  refine DQ.anil (k:=?_)
  intro sx _
  generalize sx 11 0=gT
  refine WO.appK (z:=heR (.slice none 0 0) 0) (m:=1) (l:=n+1) rfl rfl rfl (xs:=xs) (r:=r) (ys:=heR (.slice pl nl cl) (m+1)) hx hr (by repeat (first|exact Pk.here|apply Pk.there)) (Rds.own (m:=3) Hs.here rfl) rfl rfl rfl (by omega) hcc (by omega) (by decide) (by decide) (fun g1 c1 r1 a1 a2 a3=>?_)
  repeat (first|refine Ta ?_|(refine Tm ?_;intro _)|refine Tc ?_|exact Tz)
  exact WX.retP_ofN (resP0 rfl) (Lle.cons (by repeat (first|exact Pk.here|apply Pk.there)) rfl (Lle.cons (by repeat (first|exact Pk.here|apply Pk.there)) rfl Lle.nil)) ⟨rfl,g1,c1,r1,rfl,a1,a2,a3⟩
set_option maxHeartbeats 1000000 in
theorem k_keepKey0 (hm:m<1000):FnL Tryz.prog 119 [pt bk,.slice pl nl cl] [⟨bk,68,bkC m a (.slice none 0 0) c d⟩] Tr
    (BkKept bk 150 (fun v=>bkC (m+1) a v c d) [] 1 (heR (.slice pl nl cl) (m+1))):=by
  have hadd:IntKind.i64.wrap ((m:Int)+1)=((m+1:Nat):Int):=i64_in' (by omega) (by omega) (by omega)
  refine FnL.enter Tryz.func119 rfl rfl rfl ?_
  intro w hw
  repeat (first|refine Ta ?_|(refine Tm ?_;intro _)|refine WO.does (does_add rfl rfl hadd) ?_|refine Tc ?_|exact Tz)
  refine WC.adrawF [0] 12 (k:=?_)
  iterate 11 (first|refine Da ?_|refine Df ?_)
  refine DQ.makes (vf:=fun _ g=>.slice (some ⟨g,0,none⟩) 1 1) (t:=150) (cs:=fun _=>heR (.slice pl nl cl) (m+1)) (fun s _=>makes_build rfl (by decide) rfl) Dp.const Dp.const ?_
  refine DQ.anil (k:=?_)
  intro sx _
  generalize sx 11 0=gT
  refine WO.appN (z:=heR (.slice none 0 0) 0) (m:=1) rfl rfl rfl (Rds.own (m:=3) Hs.here rfl) rfl (by decide) (by decide) (by decide) (by decide) (fun g1 c1 r1 a1 a2 a3=>?_)
  repeat (first|refine Ta ?_|(refine Tm ?_;intro _)|refine Tc ?_|exact Tz)
  exact WX.retP_ofN (resP0 rfl) (Lle.cons (by repeat (first|exact Pk.here|apply Pk.there)) rfl (Lle.cons (by repeat (first|exact Pk.here|apply Pk.there)) rfl Lle.nil)) ⟨rfl,g1,c1,r1,rfl,a1,a2,a3⟩
end
end Sx
end Go.Proofs.YtiiacjladnljhaaGreatDoor
namespace Go.Proofs.YtiiacjladnljhaaGreatDoor
open Go Go.RowKit Go.BigFrame
namespace Sx
attribute [local irreducible] wd DQ DQS WO WC WX
section
variable (m:Nat) (a b c d:Value) (bk:Nat) (pl:Option Addr) (nl cl:Nat)
theorem k_Nums0 (hm:m<1000):FnL Tryz.prog 18 [pt bk,.slice pl nl cl] [⟨bk,68,bkC m (.slice none 0 0) b c d⟩] Tr (BkKept bk 124 (fun v=>bkC (m+1) v b c d) [] 1 (heR (.slice pl nl cl) (m+1))):=by
  refine FnL.enter Tryz.func18 rfl rfl rfl ?_
  intro w hw
  repeat (first|refine Ta ?_|(refine Tm ?_;intro _)|refine Tc ?_|exact Tz)
  refine WO.callsL (hc:=k_keepNum0 m b c d bk pl nl cl hm) (hp:=.cons .here .nil) (fun _ _=>trivial) (fun v N hp=>?_)
  obtain⟨rfl,g',c',r',rfl,h1,h2,h3⟩:=hp
  repeat (first|refine Ta ?_|(refine Tm ?_;intro _)|refine Tc ?_|exact Tz)
  exact WX.retP_ofN (resP0 rfl) (Lle.cons (by repeat (first|exact Pk.here|apply Pk.there)) rfl (Lle.cons (by repeat (first|exact Pk.here|apply Pk.there)) rfl Lle.nil)) ⟨rfl,g',c',r',rfl,h1,h2,h3⟩
theorem k_Nums1 (g n cc:Nat) (xs r:List Value) (hm:m<1000) (hn:n<1000) (hx:xs.length=n*3) (hr:(xs++r).length=cc*3) (hcc:cc<9223372036854775808):FnL Tryz.prog 18 [pt bk,.slice pl nl cl] [⟨bk,68,bkC m (.slice (some ⟨g,0,none⟩) n cc) b c d⟩,⟨g,124,xs++r⟩] Tr (BkKept bk 124 (fun v=>bkC (m+1) v b c d) xs (n+1) (heR (.slice pl nl cl) (m+1))):=by
  refine FnL.enter Tryz.func18 rfl rfl rfl ?_
  intro w hw
  repeat (first|refine Ta ?_|(refine Tm ?_;intro _)|refine Tc ?_|exact Tz)
  refine WO.callsL (hc:=k_keepNum1 m b c d bk pl nl cl g n cc xs r hm hn hx hr hcc) (hp:=.cons .here (.cons .here .nil)) (fun _ _=>trivial) (fun v N hp=>?_)
  obtain⟨rfl,g',c',r',rfl,h1,h2,h3⟩:=hp
  repeat (first|refine Ta ?_|(refine Tm ?_;intro _)|refine Tc ?_|exact Tz)
  exact WX.retP_ofN (resP0 rfl) (Lle.cons (by repeat (first|exact Pk.here|apply Pk.there)) rfl (Lle.cons (by repeat (first|exact Pk.here|apply Pk.there)) rfl Lle.nil)) ⟨rfl,g',c',r',rfl,h1,h2,h3⟩
theorem k_Keys0 (hm:m<1000):FnL Tryz.prog 37 [pt bk,.slice pl nl cl] [⟨bk,68,bkC m a (.slice none 0 0) c d⟩] Tr (BkKept bk 150 (fun v=>bkC (m+1) a v c d) [] 1 (heR (.slice pl nl cl) (m+1))):=by
  refine FnL.enter Tryz.func37 rfl rfl rfl ?_
  intro w hw
  repeat (first|refine Ta ?_|(refine Tm ?_;intro _)|refine Tc ?_|exact Tz)
  refine WO.callsL (hc:=k_keepKey0 m a c d bk pl nl cl hm) (hp:=.cons .here .nil) (fun _ _=>trivial) (fun v N hp=>?_)
  obtain⟨rfl,g',c',r',rfl,h1,h2,h3⟩:=hp
  repeat (first|refine Ta ?_|(refine Tm ?_;intro _)|refine Tc ?_|exact Tz)
  exact WX.retP_ofN (resP0 rfl) (Lle.cons (by repeat (first|exact Pk.here|apply Pk.there)) rfl (Lle.cons (by repeat (first|exact Pk.here|apply Pk.there)) rfl Lle.nil)) ⟨rfl,g',c',r',rfl,h1,h2,h3⟩
theorem k_Setting (p q g h:Nat) (f sec:Int) (hm:m<1000):FnL Tryz.prog 16 [pt bk,stV p q g h f sec (.slice pl nl cl)] [⟨bk,68,bkC m a (.slice none 0 0) c d⟩] Tr (BkKept bk 150 (fun v=>bkC (m+1) a v c d) [] 1 (heR (.slice pl nl cl) (m+1))):=by
  refine FnL.enter Tryz.func16 rfl rfl rfl ?_
  intro w hw
  repeat (first|refine Ta ?_|(refine Tm ?_;intro _)|refine Tc ?_|exact Tz)
  refine WO.callsL (hc:=k_Keys0 m a c d bk pl nl cl hm) (hp:=.cons (.there .here) .nil) (fun _ _=>trivial) (fun v N hp=>?_)
  obtain⟨rfl,g',c',r',rfl,h1,h2,h3⟩:=hp
  repeat (first|refine Ta ?_|(refine Tm ?_;intro _)|refine Tc ?_|exact Tz)
  exact WX.retP_ofN (resP0 rfl) (Lle.cons (by repeat (first|exact Pk.here|apply Pk.there)) rfl (Lle.cons (by repeat (first|exact Pk.here|apply Pk.there)) rfl Lle.nil)) ⟨rfl,g',c',r',rfl,h1,h2,h3⟩
end
end Sx
end Go.Proofs.YtiiacjladnljhaaGreatDoor
