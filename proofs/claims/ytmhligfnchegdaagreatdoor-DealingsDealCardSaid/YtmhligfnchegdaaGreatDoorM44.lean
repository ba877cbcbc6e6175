/- Part 44 of the proof: BkB, BkC, BkD, BkE -/
import Derived.Test.YtmhligfnchegdaaGreatDoorM43
import Derived.Test.YtmhligfnchegdaaGreatDoorM19
import Derived.Test.YtmhligfnchegdaaGreatDoorM17
import Derived.Test.YtmhligfnchegdaaGreatDoorM34
set_option linter.unusedSimpArgs false
set_option linter.unusedVariables false
namespace Go.Proofs.YtmhligfnchegdaaGreatDoor
open Go Go.RowKit Go.BigFrame
namespace Sx
attribute [local irreducible] wd DQ DQS WO WC WX
abbrev bkC (m:Nat) (a b c d:Value):List Value:=[.int .i64 (m:Int),.slice none 0 0,.slice none 0 0,.slice none 0 0,a,.slice none 0 0,.slice none 0 0,b,c,.slice none 0 0,d,.slice none 0 0,.slice none 0 0,.slice none 0 0,.slice none 0 0,.slice none 0 0,.slice none 0 0,.slice none 0 0]
section
variable (m:Nat) (a b c d:Value) (bk:Nat)
theorem k_fillByte:FnL Tryz.prog 54 [pt bk] [] (fun w=>Seg w bk 0 (bkC m a b c (d))) (fun v N=>v=.tuple #[]∧N=[]):=by
  refine FnL.enter Tryz.func54 rfl rfl rfl ?_
  intro w hw
  repeat (first|refine WC.loopU 1 ?_|refine Ta ?_|(refine Tm ?_;intro _)|refine WO.does (a_loadF (vs:=[.slice none 0 0]) (hs:=hw) (hle:=Nat.zero_le _) (hc:=rfl)) ?_|refine Tc ?_|exact Tz)
  exact WX.retP_ofN (resP0 rfl) Lle.nil ⟨rfl,rfl⟩
theorem k_growByte:FnL Tryz.prog 71 [pt bk] [] (fun w=>Seg w bk 0 (bkC m a b c (d))) (fun v N=>v=.tuple #[]∧N=[]):=by
  refine FnL.enter Tryz.func71 rfl rfl rfl ?_
  intro w hw
  repeat (first|refine WC.loopU 1 ?_|refine Ta ?_|(refine Tm ?_;intro _)|refine WO.does (a_loadF (vs:=[.slice none 0 0]) (hs:=hw) (hle:=Nat.zero_le _) (hc:=rfl)) ?_|refine Tc ?_|exact Tz)
  exact WX.retP_ofN (resP0 rfl) Lle.nil ⟨rfl,rfl⟩
theorem k_lookByte:Fn Tryz.prog 88 [pt bk] (fun w=>Seg w bk 0 (bkC m a b c (d))) (Is (.bool true)):=by
  refine Fn.enter Tryz.func88 rfl rfl rfl ?_
  intro w hw
  repeat (first|refine WC.loopU 1 ?_|refine Ta ?_|(refine Tm ?_;intro _)|refine WO.does (a_loadF (vs:=[.slice none 0 0]) (hs:=hw) (hle:=Nat.zero_le _) (hc:=rfl)) ?_|refine Tc ?_|exact Tz)
theorem k_fillInt:FnL Tryz.prog 55 [pt bk] [] (fun w=>Seg w bk 0 (bkC m a b c (d))) (fun v N=>v=.tuple #[]∧N=[]):=by
  refine FnL.enter Tryz.func55 rfl rfl rfl ?_
  intro w hw
  repeat (first|refine WC.loopU 1 ?_|refine Ta ?_|(refine Tm ?_;intro _)|refine WO.does (a_loadF (vs:=[.slice none 0 0]) (hs:=hw) (hle:=Nat.zero_le _) (hc:=rfl)) ?_|refine Tc ?_|exact Tz)
  exact WX.retP_ofN (resP0 rfl) Lle.nil ⟨rfl,rfl⟩
theorem k_growInt:FnL Tryz.prog 72 [pt bk] [] (fun w=>Seg w bk 0 (bkC m a b c (d))) (fun v N=>v=.tuple #[]∧N=[]):=by
  refine FnL.enter Tryz.func72 rfl rfl rfl ?_
  intro w hw
  repeat (first|refine WC.loopU 1 ?_|refine Ta ?_|(refine Tm ?_;intro _)|refine WO.does (a_loadF (vs:=[.slice none 0 0]) (hs:=hw) (hle:=Nat.zero_le _) (hc:=rfl)) ?_|refine Tc ?_|exact Tz)
  exact WX.retP_ofN (resP0 rfl) Lle.nil ⟨rfl,rfl⟩
theorem k_lookInt:Fn Tryz.prog 89 [pt bk] (fun w=>Seg w bk 0 (bkC m a b c (d))) (Is (.bool true)):=by
  refine Fn.enter Tryz.func89 rfl rfl rfl ?_
  intro w hw
  repeat (first|refine WC.loopU 1 ?_|refine Ta ?_|(refine Tm ?_;intro _)|refine WO.does (a_loadF (vs:=[.slice none 0 0]) (hs:=hw) (hle:=Nat.zero_le _) (hc:=rfl)) ?_|refine Tc ?_|exact Tz)
theorem k_fillText:FnL Tryz.prog 56 [pt bk] [] (fun w=>Seg w bk 0 (bkC m a b c (d))) (fun v N=>v=.tuple #[]∧N=[]):=by
  refine FnL.enter Tryz.func56 rfl rfl rfl ?_
  intro w hw
  repeat (first|refine WC.loopU 1 ?_|refine Ta ?_|(refine Tm ?_;intro _)|refine WO.does (a_loadF (vs:=[.slice none 0 0]) (hs:=hw) (hle:=Nat.zero_le _) (hc:=rfl)) ?_|refine Tc ?_|exact Tz)
  exact WX.retP_ofN (resP0 rfl) Lle.nil ⟨rfl,rfl⟩
theorem k_growText:FnL Tryz.prog 73 [pt bk] [] (fun w=>Seg w bk 0 (bkC m a b c (d))) (fun v N=>v=.tuple #[]∧N=[]):=by
  refine FnL.enter Tryz.func73 rfl rfl rfl ?_
  intro w hw
  repeat (first|refine WC.loopU 1 ?_|refine Ta ?_|(refine Tm ?_;intro _)|refine WO.does (a_loadF (vs:=[.slice none 0 0]) (hs:=hw) (hle:=Nat.zero_le _) (hc:=rfl)) ?_|refine Tc ?_|exact Tz)
  exact WX.retP_ofN (resP0 rfl) Lle.nil ⟨rfl,rfl⟩
theorem k_lookText:Fn Tryz.prog 90 [pt bk] (fun w=>Seg w bk 0 (bkC m a b c (d))) (Is (.bool true)):=by
  refine Fn.enter Tryz.func90 rfl rfl rfl ?_
  intro w hw
  repeat (first|refine WC.loopU 1 ?_|refine Ta ?_|(refine Tm ?_;intro _)|refine WO.does (a_loadF (vs:=[.slice none 0 0]) (hs:=hw) (hle:=Nat.zero_le _) (hc:=rfl)) ?_|refine Tc ?_|exact Tz)
theorem k_fillHash:FnL Tryz.prog 58 [pt bk] [] (fun w=>Seg w bk 0 (bkC m a b c (d))) (fun v N=>v=.tuple #[]∧N=[]):=by
  refine FnL.enter Tryz.func58 rfl rfl rfl ?_
  intro w hw
  repeat (first|refine WC.loopU 1 ?_|refine Ta ?_|(refine Tm ?_;intro _)|refine WO.does (a_loadF (vs:=[.slice none 0 0]) (hs:=hw) (hle:=Nat.zero_le _) (hc:=rfl)) ?_|refine Tc ?_|exact Tz)
  exact WX.retP_ofN (resP0 rfl) Lle.nil ⟨rfl,rfl⟩
theorem k_growHash:FnL Tryz.prog 75 [pt bk] [] (fun w=>Seg w bk 0 (bkC m a b c (d))) (fun v N=>v=.tuple #[]∧N=[]):=by
  refine FnL.enter Tryz.func75 rfl rfl rfl ?_
  intro w hw
  repeat (first|refine WC.loopU 1 ?_|refine Ta ?_|(refine Tm ?_;intro _)|refine WO.does (a_loadF (vs:=[.slice none 0 0]) (hs:=hw) (hle:=Nat.zero_le _) (hc:=rfl)) ?_|refine Tc ?_|exact Tz)
  exact WX.retP_ofN (resP0 rfl) Lle.nil ⟨rfl,rfl⟩
theorem k_lookHash:Fn Tryz.prog 92 [pt bk] (fun w=>Seg w bk 0 (bkC m a b c (d))) (Is (.bool true)):=by
  refine Fn.enter Tryz.func92 rfl rfl rfl ?_
  intro w hw
  repeat (first|refine WC.loopU 1 ?_|refine Ta ?_|(refine Tm ?_;intro _)|refine WO.does (a_loadF (vs:=[.slice none 0 0]) (hs:=hw) (hle:=Nat.zero_le _) (hc:=rfl)) ?_|refine Tc ?_|exact Tz)
theorem k_fillReason:FnL Tryz.prog 59 [pt bk] [] (fun w=>Seg w bk 0 (bkC m a b c (d))) (fun v N=>v=.tuple #[]∧N=[]):=by
  refine FnL.enter Tryz.func59 rfl rfl rfl ?_
  intro w hw
  repeat (first|refine WC.loopU 1 ?_|refine Ta ?_|(refine Tm ?_;intro _)|refine WO.does (a_loadF (vs:=[.slice none 0 0]) (hs:=hw) (hle:=Nat.zero_le _) (hc:=rfl)) ?_|refine Tc ?_|exact Tz)
  exact WX.retP_ofN (resP0 rfl) Lle.nil ⟨rfl,rfl⟩
theorem k_growReason:FnL Tryz.prog 76 [pt bk] [] (fun w=>Seg w bk 0 (bkC m a b c (d))) (fun v N=>v=.tuple #[]∧N=[]):=by
  refine FnL.enter Tryz.func76 rfl rfl rfl ?_
  intro w hw
  repeat (first|refine WC.loopU 1 ?_|refine Ta ?_|(refine Tm ?_;intro _)|refine WO.does (a_loadF (vs:=[.slice none 0 0]) (hs:=hw) (hle:=Nat.zero_le _) (hc:=rfl)) ?_|refine Tc ?_|exact Tz)
  exact WX.retP_ofN (resP0 rfl) Lle.nil ⟨rfl,rfl⟩
theorem k_lookReason:Fn Tryz.prog 93 [pt bk] (fun w=>Seg w bk 0 (bkC m a b c (d))) (Is (.bool true)):=by
  refine Fn.enter Tryz.func93 rfl rfl rfl ?_
  intro w hw
  repeat (first|refine WC.loopU 1 ?_|refine Ta ?_|(refine Tm ?_;intro _)|refine WO.does (a_loadF (vs:=[.slice none 0 0]) (hs:=hw) (hle:=Nat.zero_le _) (hc:=rfl)) ?_|refine Tc ?_|exact Tz)
theorem k_fillDealing:FnL Tryz.prog 62 [pt bk] [] (fun w=>Seg w bk 0 (bkC m a b c (d))) (fun v N=>v=.tuple #[]∧N=[]):=by
  refine FnL.enter Tryz.func62 rfl rfl rfl ?_
  intro w hw
  repeat (first|refine WC.loopU 1 ?_|refine Ta ?_|(refine Tm ?_;intro _)|refine WO.does (a_loadF (vs:=[.slice none 0 0]) (hs:=hw) (hle:=Nat.zero_le _) (hc:=rfl)) ?_|refine Tc ?_|exact Tz)
  exact WX.retP_ofN (resP0 rfl) Lle.nil ⟨rfl,rfl⟩
theorem k_growDealing:FnL Tryz.prog 79 [pt bk] [] (fun w=>Seg w bk 0 (bkC m a b c (d))) (fun v N=>v=.tuple #[]∧N=[]):=by
  refine FnL.enter Tryz.func79 rfl rfl rfl ?_
  intro w hw
  repeat (first|refine WC.loopU 1 ?_|refine Ta ?_|(refine Tm ?_;intro _)|refine WO.does (a_loadF (vs:=[.slice none 0 0]) (hs:=hw) (hle:=Nat.zero_le _) (hc:=rfl)) ?_|refine Tc ?_|exact Tz)
  exact WX.retP_ofN (resP0 rfl) Lle.nil ⟨rfl,rfl⟩
theorem k_lookDealing:Fn Tryz.prog 96 [pt bk] (fun w=>Seg w bk 0 (bkC m a b c (d))) (Is (.bool true)):=by
  refine Fn.enter Tryz.func96 rfl rfl rfl ?_
  intro w hw
  repeat (first|refine WC.loopU 1 ?_|refine Ta ?_|(refine Tm ?_;intro _)|refine WO.does (a_loadF (vs:=[.slice none 0 0]) (hs:=hw) (hle:=Nat.zero_le _) (hc:=rfl)) ?_|refine Tc ?_|exact Tz)
theorem k_fillOpened:FnL Tryz.prog 63 [pt bk] [] (fun w=>Seg w bk 0 (bkC m a b c (.slice none 0 0))) (fun v N=>v=.tuple #[]∧N=[]):=by
  refine FnL.enter Tryz.func63 rfl rfl rfl ?_
  intro w hw
  repeat (first|refine WC.loopU 1 ?_|refine Ta ?_|(refine Tm ?_;intro _)|refine WO.does (a_loadF (vs:=[.slice none 0 0]) (hs:=hw) (hle:=Nat.zero_le _) (hc:=rfl)) ?_|refine Tc ?_|exact Tz)
  exact WX.retP_ofN (resP0 rfl) Lle.nil ⟨rfl,rfl⟩
theorem k_growOpened:FnL Tryz.prog 80 [pt bk] [] (fun w=>Seg w bk 0 (bkC m a b c (.slice none 0 0))) (fun v N=>v=.tuple #[]∧N=[]):=by
  refine FnL.enter Tryz.func80 rfl rfl rfl ?_
  intro w hw
  repeat (first|refine WC.loopU 1 ?_|refine Ta ?_|(refine Tm ?_;intro _)|refine WO.does (a_loadF (vs:=[.slice none 0 0]) (hs:=hw) (hle:=Nat.zero_le _) (hc:=rfl)) ?_|refine Tc ?_|exact Tz)
  exact WX.retP_ofN (resP0 rfl) Lle.nil ⟨rfl,rfl⟩
theorem k_lookOpened:Fn Tryz.prog 97 [pt bk] (fun w=>Seg w bk 0 (bkC m a b c (.slice none 0 0))) (Is (.bool true)):=by
  refine Fn.enter Tryz.func97 rfl rfl rfl ?_
  intro w hw
  repeat (first|refine WC.loopU 1 ?_|refine Ta ?_|(refine Tm ?_;intro _)|refine WO.does (a_loadF (vs:=[.slice none 0 0]) (hs:=hw) (hle:=Nat.zero_le _) (hc:=rfl)) ?_|refine Tc ?_|exact Tz)
theorem k_fillShown:FnL Tryz.prog 64 [pt bk] [] (fun w=>Seg w bk 0 (bkC m a b c (d))) (fun v N=>v=.tuple #[]∧N=[]):=by
  refine FnL.enter Tryz.func64 rfl rfl rfl ?_
  intro w hw
  repeat (first|refine WC.loopU 1 ?_|refine Ta ?_|(refine Tm ?_;intro _)|refine WO.does (a_loadF (vs:=[.slice none 0 0]) (hs:=hw) (hle:=Nat.zero_le _) (hc:=rfl)) ?_|refine Tc ?_|exact Tz)
  exact WX.retP_ofN (resP0 rfl) Lle.nil ⟨rfl,rfl⟩
theorem k_growShown:FnL Tryz.prog 81 [pt bk] [] (fun w=>Seg w bk 0 (bkC m a b c (d))) (fun v N=>v=.tuple #[]∧N=[]):=by
  refine FnL.enter Tryz.func81 rfl rfl rfl ?_
  intro w hw
  repeat (first|refine WC.loopU 1 ?_|refine Ta ?_|(refine Tm ?_;intro _)|refine WO.does (a_loadF (vs:=[.slice none 0 0]) (hs:=hw) (hle:=Nat.zero_le _) (hc:=rfl)) ?_|refine Tc ?_|exact Tz)
  exact WX.retP_ofN (resP0 rfl) Lle.nil ⟨rfl,rfl⟩
theorem k_lookShown:Fn Tryz.prog 98 [pt bk] (fun w=>Seg w bk 0 (bkC m a b c (d))) (Is (.bool true)):=by
  refine Fn.enter Tryz.func98 rfl rfl rfl ?_
  intro w hw
  repeat (first|refine WC.loopU 1 ?_|refine Ta ?_|(refine Tm ?_;intro _)|refine WO.does (a_loadF (vs:=[.slice none 0 0]) (hs:=hw) (hle:=Nat.zero_le _) (hc:=rfl)) ?_|refine Tc ?_|exact Tz)
theorem k_fillVote:FnL Tryz.prog 65 [pt bk] [] (fun w=>Seg w bk 0 (bkC m a b c (d))) (fun v N=>v=.tuple #[]∧N=[]):=by
  refine FnL.enter Tryz.func65 rfl rfl rfl ?_
  intro w hw
  repeat (first|refine WC.loopU 1 ?_|refine Ta ?_|(refine Tm ?_;intro _)|refine WO.does (a_loadF (vs:=[.slice none 0 0]) (hs:=hw) (hle:=Nat.zero_le _) (hc:=rfl)) ?_|refine Tc ?_|exact Tz)
  exact WX.retP_ofN (resP0 rfl) Lle.nil ⟨rfl,rfl⟩
theorem k_growVote:FnL Tryz.prog 82 [pt bk] [] (fun w=>Seg w bk 0 (bkC m a b c (d))) (fun v N=>v=.tuple #[]∧N=[]):=by
  refine FnL.enter Tryz.func82 rfl rfl rfl ?_
  intro w hw
  repeat (first|refine WC.loopU 1 ?_|refine Ta ?_|(refine Tm ?_;intro _)|refine WO.does (a_loadF (vs:=[.slice none 0 0]) (hs:=hw) (hle:=Nat.zero_le _) (hc:=rfl)) ?_|refine Tc ?_|exact Tz)
  exact WX.retP_ofN (resP0 rfl) Lle.nil ⟨rfl,rfl⟩
theorem k_lookVote:Fn Tryz.prog 99 [pt bk] (fun w=>Seg w bk 0 (bkC m a b c (d))) (Is (.bool true)):=by
  refine Fn.enter Tryz.func99 rfl rfl rfl ?_
  intro w hw
  repeat (first|refine WC.loopU 1 ?_|refine Ta ?_|(refine Tm ?_;intro _)|refine WO.does (a_loadF (vs:=[.slice none 0 0]) (hs:=hw) (hle:=Nat.zero_le _) (hc:=rfl)) ?_|refine Tc ?_|exact Tz)
theorem k_fillBlock:FnL Tryz.prog 66 [pt bk] [] (fun w=>Seg w bk 0 (bkC m a b c (d))) (fun v N=>v=.tuple #[]∧N=[]):=by
  refine FnL.enter Tryz.func66 rfl rfl rfl ?_
  intro w hw
  repeat (first|refine WC.loopU 1 ?_|refine Ta ?_|(refine Tm ?_;intro _)|refine WO.does (a_loadF (vs:=[.slice none 0 0]) (hs:=hw) (hle:=Nat.zero_le _) (hc:=rfl)) ?_|refine Tc ?_|exact Tz)
  exact WX.retP_ofN (resP0 rfl) Lle.nil ⟨rfl,rfl⟩
theorem k_growBlock:FnL Tryz.prog 83 [pt bk] [] (fun w=>Seg w bk 0 (bkC m a b c (d))) (fun v N=>v=.tuple #[]∧N=[]):=by
  refine FnL.enter Tryz.func83 rfl rfl rfl ?_
  intro w hw
  repeat (first|refine WC.loopU 1 ?_|refine Ta ?_|(refine Tm ?_;intro _)|refine WO.does (a_loadF (vs:=[.slice none 0 0]) (hs:=hw) (hle:=Nat.zero_le _) (hc:=rfl)) ?_|refine Tc ?_|exact Tz)
  exact WX.retP_ofN (resP0 rfl) Lle.nil ⟨rfl,rfl⟩
theorem k_lookBlock:Fn Tryz.prog 100 [pt bk] (fun w=>Seg w bk 0 (bkC m a b c (d))) (Is (.bool true)):=by
  refine Fn.enter Tryz.func100 rfl rfl rfl ?_
  intro w hw
  repeat (first|refine WC.loopU 1 ?_|refine Ta ?_|(refine Tm ?_;intro _)|refine WO.does (a_loadF (vs:=[.slice none 0 0]) (hs:=hw) (hle:=Nat.zero_le _) (hc:=rfl)) ?_|refine Tc ?_|exact Tz)
theorem k_fillEvidence:FnL Tryz.prog 67 [pt bk] [] (fun w=>Seg w bk 0 (bkC m a b c (d))) (fun v N=>v=.tuple #[]∧N=[]):=by
  refine FnL.enter Tryz.func67 rfl rfl rfl ?_
  intro w hw
  repeat (first|refine WC.loopU 1 ?_|refine Ta ?_|(refine Tm ?_;intro _)|refine WO.does (a_loadF (vs:=[.slice none 0 0]) (hs:=hw) (hle:=Nat.zero_le _) (hc:=rfl)) ?_|refine Tc ?_|exact Tz)
  exact WX.retP_ofN (resP0 rfl) Lle.nil ⟨rfl,rfl⟩
theorem k_growEvidence:FnL Tryz.prog 84 [pt bk] [] (fun w=>Seg w bk 0 (bkC m a b c (d))) (fun v N=>v=.tuple #[]∧N=[]):=by
  refine FnL.enter Tryz.func84 rfl rfl rfl ?_
  intro w hw
  repeat (first|refine WC.loopU 1 ?_|refine Ta ?_|(refine Tm ?_;intro _)|refine WO.does (a_loadF (vs:=[.slice none 0 0]) (hs:=hw) (hle:=Nat.zero_le _) (hc:=rfl)) ?_|refine Tc ?_|exact Tz)
  exact WX.retP_ofN (resP0 rfl) Lle.nil ⟨rfl,rfl⟩
theorem k_lookEvidence:Fn Tryz.prog 101 [pt bk] (fun w=>Seg w bk 0 (bkC m a b c (d))) (Is (.bool true)):=by
  refine Fn.enter Tryz.func101 rfl rfl rfl ?_
  intro w hw
  repeat (first|refine WC.loopU 1 ?_|refine Ta ?_|(refine Tm ?_;intro _)|refine WO.does (a_loadF (vs:=[.slice none 0 0]) (hs:=hw) (hle:=Nat.zero_le _) (hc:=rfl)) ?_|refine Tc ?_|exact Tz)
theorem k_fillMsg:FnL Tryz.prog 68 [pt bk] [] (fun w=>Seg w bk 0 (bkC m a b c (d))) (fun v N=>v=.tuple #[]∧N=[]):=by
  refine FnL.enter Tryz.func68 rfl rfl rfl ?_
  intro w hw
  repeat (first|refine WC.loopU 1 ?_|refine Ta ?_|(refine Tm ?_;intro _)|refine WO.does (a_loadF (vs:=[.slice none 0 0]) (hs:=hw) (hle:=Nat.zero_le _) (hc:=rfl)) ?_|refine Tc ?_|exact Tz)
  exact WX.retP_ofN (resP0 rfl) Lle.nil ⟨rfl,rfl⟩
theorem k_growMsg:FnL Tryz.prog 85 [pt bk] [] (fun w=>Seg w bk 0 (bkC m a b c (d))) (fun v N=>v=.tuple #[]∧N=[]):=by
  refine FnL.enter Tryz.func85 rfl rfl rfl ?_
  intro w hw
  repeat (first|refine WC.loopU 1 ?_|refine Ta ?_|(refine Tm ?_;intro _)|refine WO.does (a_loadF (vs:=[.slice none 0 0]) (hs:=hw) (hle:=Nat.zero_le _) (hc:=rfl)) ?_|refine Tc ?_|exact Tz)
  exact WX.retP_ofN (resP0 rfl) Lle.nil ⟨rfl,rfl⟩
theorem k_lookMsg:Fn Tryz.prog 102 [pt bk] (fun w=>Seg w bk 0 (bkC m a b c (d))) (Is (.bool true)):=by
  refine Fn.enter Tryz.func102 rfl rfl rfl ?_
  intro w hw
  repeat (first|refine WC.loopU 1 ?_|refine Ta ?_|(refine Tm ?_;intro _)|refine WO.does (a_loadF (vs:=[.slice none 0 0]) (hs:=hw) (hle:=Nat.zero_le _) (hc:=rfl)) ?_|refine Tc ?_|exact Tz)
theorem k_fillFrame:FnL Tryz.prog 69 [pt bk] [] (fun w=>Seg w bk 0 (bkC m a b c (d))) (fun v N=>v=.tuple #[]∧N=[]):=by
  refine FnL.enter Tryz.func69 rfl rfl rfl ?_
  intro w hw
  repeat (first|refine WC.loopU 1 ?_|refine Ta ?_|(refine Tm ?_;intro _)|refine WO.does (a_loadF (vs:=[.slice none 0 0]) (hs:=hw) (hle:=Nat.zero_le _) (hc:=rfl)) ?_|refine Tc ?_|exact Tz)
  exact WX.retP_ofN (resP0 rfl) Lle.nil ⟨rfl,rfl⟩
theorem k_growFrame:FnL Tryz.prog 86 [pt bk] [] (fun w=>Seg w bk 0 (bkC m a b c (d))) (fun v N=>v=.tuple #[]∧N=[]):=by
  refine FnL.enter Tryz.func86 rfl rfl rfl ?_
  intro w hw
  repeat (first|refine WC.loopU 1 ?_|refine Ta ?_|(refine Tm ?_;intro _)|refine WO.does (a_loadF (vs:=[.slice none 0 0]) (hs:=hw) (hle:=Nat.zero_le _) (hc:=rfl)) ?_|refine Tc ?_|exact Tz)
  exact WX.retP_ofN (resP0 rfl) Lle.nil ⟨rfl,rfl⟩
theorem k_lookFrame:Fn Tryz.prog 103 [pt bk] (fun w=>Seg w bk 0 (bkC m a b c (d))) (Is (.bool true)):=by
  refine Fn.enter Tryz.func103 rfl rfl rfl ?_
  intro w hw
  repeat (first|refine WC.loopU 1 ?_|refine Ta ?_|(refine Tm ?_;intro _)|refine WO.does (a_loadF (vs:=[.slice none 0 0]) (hs:=hw) (hle:=Nat.zero_le _) (hc:=rfl)) ?_|refine Tc ?_|exact Tz)
theorem k_fillRecord:FnL Tryz.prog 70 [pt bk] [] (fun w=>Seg w bk 0 (bkC m a b c (d))) (fun v N=>v=.tuple #[]∧N=[]):=by
  refine FnL.enter Tryz.func70 rfl rfl rfl ?_
  intro w hw
  repeat (first|refine WC.loopU 1 ?_|refine Ta ?_|(refine Tm ?_;intro _)|refine WO.does (a_loadF (vs:=[.slice none 0 0]) (hs:=hw) (hle:=Nat.zero_le _) (hc:=rfl)) ?_|refine Tc ?_|exact Tz)
  exact WX.retP_ofN (resP0 rfl) Lle.nil ⟨rfl,rfl⟩
theorem k_growRecord:FnL Tryz.prog 87 [pt bk] [] (fun w=>Seg w bk 0 (bkC m a b c (d))) (fun v N=>v=.tuple #[]∧N=[]):=by
  refine FnL.enter Tryz.func87 rfl rfl rfl ?_
  intro w hw
  repeat (first|refine WC.loopU 1 ?_|refine Ta ?_|(refine Tm ?_;intro _)|refine WO.does (a_loadF (vs:=[.slice none 0 0]) (hs:=hw) (hle:=Nat.zero_le _) (hc:=rfl)) ?_|refine Tc ?_|exact Tz)
  exact WX.retP_ofN (resP0 rfl) Lle.nil ⟨rfl,rfl⟩
theorem k_lookRecord:Fn Tryz.prog 104 [pt bk] (fun w=>Seg w bk 0 (bkC m a b c (d))) (Is (.bool true)):=by
  refine Fn.enter Tryz.func104 rfl rfl rfl ?_
  intro w hw
  repeat (first|refine WC.loopU 1 ?_|refine Ta ?_|(refine Tm ?_;intro _)|refine WO.does (a_loadF (vs:=[.slice none 0 0]) (hs:=hw) (hle:=Nat.zero_le _) (hc:=rfl)) ?_|refine Tc ?_|exact Tz)
end
end Sx
end Go.Proofs.YtmhligfnchegdaaGreatDoor
namespace Go.Proofs.YtmhligfnchegdaaGreatDoor
open Go Go.RowKit Go.BigFrame
namespace Sx
attribute [local irreducible] wd DQ DQS WO WC WX
abbrev heR (v:Value) (m:Nat):List Value:=[v,.slice none 0 0,.int .i64 (m:Int)]
def BkKept (bk T:Nat) (F:Value→List Value) (xs:List Value) (n:Nat) (row:List Value):Value→List Ent→Prop:=fun v N =>
  v=.tuple #[]∧∃ g c r,N=[⟨bk,66,F (.slice (some ⟨g,0,none⟩) n c)⟩,⟨g,T,xs++row++r⟩]∧(xs++row++r).length=c*3∧c<9223372036854775808∧n≤c
section
variable (m:Nat) (a b c d:Value) (bk:Nat) (pl:Option Addr) (nl cl:Nat)
set_option maxHeartbeats 1000000 in
theorem k_keepNum0 (hm:m<1000):FnL Tryz.prog 52 [pt bk,.slice pl nl cl] [⟨bk,66,bkC m (.slice none 0 0) b c d⟩] Tr
    (BkKept bk 138 (fun v=>bkC (m+1) v b c d) [] 1 (heR (.slice pl nl cl) (m+1))):=by
  have hadd:IntKind.i64.wrap ((m:Int)+1)=((m+1:Nat):Int):=i64_in' (by omega) (by omega) (by omega)
  refine FnL.enter Tryz.func52 rfl rfl rfl ?_
  intro w hw
  repeat (first|refine Ta ?_|(refine Tm ?_;intro _)|refine WO.does (does_add rfl rfl hadd) ?_|refine Tc ?_|exact Tz)
  refine WC.adrawF [0] 12 (k:=?_)
  iterate 11 (first|refine Da ?_|refine Df ?_)
  refine DQ.makes (vf:=fun _ g=>.slice (some ⟨g,0,none⟩) 1 1) (t:=138) (cs:=fun _=>heR (.slice pl nl cl) (m+1)) (fun s _=>makes_build rfl (by decide) rfl) Dp.const Dp.const ?_
  refine DQ.anil (k:=?_)
  intro sx _
  generalize sx 11 0=gT
  refine WO.appN (z:=heR (.slice none 0 0) 0) (m:=1) rfl rfl rfl (Rds.own (m:=3) Hs.here rfl) rfl (by decide) (by decide) (by decide) (by decide) (fun g1 c1 r1 a1 a2 a3=>?_)
  repeat (first|refine Ta ?_|(refine Tm ?_;intro _)|refine Tc ?_|exact Tz)
  exact WX.retP_ofN (resP0 rfl) (Lle.cons (by repeat (first|exact Pk.here|apply Pk.there)) rfl (Lle.cons (by repeat (first|exact Pk.here|apply Pk.there)) rfl Lle.nil)) ⟨rfl,g1,c1,r1,rfl,a1,a2,a3⟩
set_option maxHeartbeats 1000000 in
theorem k_keepNum1 (g n cc:Nat) (xs r:List Value) (hm:m<1000) (hn:n<1000) (hx:xs.length=n*3) (hr:(xs++r).length=cc*3) (hcc:cc<9223372036854775808) :
    FnL Tryz.prog 52 [pt bk,.slice pl nl cl] [⟨bk,66,bkC m (.slice (some ⟨g,0,none⟩) n cc) b c d⟩,⟨g,138,xs++r⟩] Tr
    (BkKept bk 138 (fun v=>bkC (m+1) v b c d) xs (n+1) (heR (.slice pl nl cl) (m+1))):=by
  have hadd:IntKind.i64.wrap ((m:Int)+1)=((m+1:Nat):Int):=i64_in' (by omega) (by omega) (by omega)
  refine FnL.enter Tryz.func52 rfl rfl rfl ?_
  intro w hw
  repeat (first|refine Ta ?_|(refine Tm ?_;intro _)|refine WO.does (does_add rfl rfl hadd) ?_|refine Tc ?_|exact Tz)
  refine WC.adrawF [0] 12 (k:=?_)
  iterate 11 (first|refine Da ?_|refine Df ?_)
  refine DQ.makes (vf:=fun _ g=>.slice (some ⟨g,0,none⟩) 1 1) (t:=138) (cs:=fun _=>heR (.slice pl nl cl) (m+1)) (fun s _=>makes_build rfl (by decide) rfl) Dp.const Dp.const ?_
  refine DQ.anil (k:=?_)
  intro sx _
  generalize sx 11 0=gT
  refine WO.appK (z:=heR (.slice none 0 0) 0) (m:=1) (l:=n+1) rfl rfl rfl (xs:=xs) (r:=r) (ys:=heR (.slice pl nl cl) (m+1)) hx hr (by repeat (first|exact Pk.here|apply Pk.there)) (Rds.own (m:=3) Hs.here rfl) rfl rfl rfl (by omega) hcc (by omega) (by decide) (by decide) (fun g1 c1 r1 a1 a2 a3=>?_)
  repeat (first|refine Ta ?_|(refine Tm ?_;intro _)|refine Tc ?_|exact Tz)
  exact WX.retP_ofN (resP0 rfl) (Lle.cons (by repeat (first|exact Pk.here|apply Pk.there)) rfl (Lle.cons (by repeat (first|exact Pk.here|apply Pk.there)) rfl Lle.nil)) ⟨rfl,g1,c1,r1,rfl,a1,a2,a3⟩
set_option maxHeartbeats 1000000 in
theorem k_keepKey0 (hm:m<1000):FnL Tryz.prog 144 [pt bk,.slice pl nl cl] [⟨bk,66,bkC m a (.slice none 0 0) c d⟩] Tr
    (BkKept bk 162 (fun v=>bkC (m+1) a v c d) [] 1 (heR (.slice pl nl cl) (m+1))):=by
  have hadd:IntKind.i64.wrap ((m:Int)+1)=((m+1:Nat):Int):=i64_in' (by omega) (by omega) (by omega)
  refine FnL.enter Tryz.func144 rfl rfl rfl ?_
  intro w hw
  repeat (first|refine Ta ?_|(refine Tm ?_;intro _)|refine WO.does (does_add rfl rfl hadd) ?_|refine Tc ?_|exact Tz)
  refine WC.adrawF [0] 12 (k:=?_)
  iterate 11 (first|refine Da ?_|refine Df ?_)
  refine DQ.makes (vf:=fun _ g=>.slice (some ⟨g,0,none⟩) 1 1) (t:=162) (cs:=fun _=>heR (.slice pl nl cl) (m+1)) (fun s _=>makes_build rfl (by decide) rfl) Dp.const Dp.const ?_
  refine DQ.anil (k:=?_)
  intro sx _
  generalize sx 11 0=gT
  refine WO.appN (z:=heR (.slice none 0 0) 0) (m:=1) rfl rfl rfl (Rds.own (m:=3) Hs.here rfl) rfl (by decide) (by decide) (by decide) (by decide) (fun g1 c1 r1 a1 a2 a3=>?_)
  repeat (first|refine Ta ?_|(refine Tm ?_;intro _)|refine Tc ?_|exact Tz)
  exact WX.retP_ofN (resP0 rfl) (Lle.cons (by repeat (first|exact Pk.here|apply Pk.there)) rfl (Lle.cons (by repeat (first|exact Pk.here|apply Pk.there)) rfl Lle.nil)) ⟨rfl,g1,c1,r1,rfl,a1,a2,a3⟩
set_option maxHeartbeats 1000000 in
theorem k_keepProof0 (hm:m<1000):FnL Tryz.prog 145 [pt bk,.slice pl nl cl] [⟨bk,66,bkC m a b (.slice none 0 0) d⟩] Tr
    (BkKept bk 165 (fun v=>bkC (m+1) a b v d) [] 1 (heR (.slice pl nl cl) (m+1))):=by
  have hadd:IntKind.i64.wrap ((m:Int)+1)=((m+1:Nat):Int):=i64_in' (by omega) (by omega) (by omega)
  refine FnL.enter Tryz.func145 rfl rfl rfl ?_
  intro w hw
  repeat (first|refine Ta ?_|(refine Tm ?_;intro _)|refine WO.does (does_add rfl rfl hadd) ?_|refine Tc ?_|exact Tz)
  refine WC.adrawF [0] 12 (k:=?_)
  iterate 11 (first|refine Da ?_|refine Df ?_)
  refine DQ.makes (vf:=fun _ g=>.slice (some ⟨g,0,none⟩) 1 1) (t:=165) (cs:=fun _=>heR (.slice pl nl cl) (m+1)) (fun s _=>makes_build rfl (by decide) rfl) Dp.const Dp.const ?_
  refine DQ.anil (k:=?_)
  intro sx _
  generalize sx 11 0=gT
  refine WO.appN (z:=heR (.slice none 0 0) 0) (m:=1) rfl rfl rfl (Rds.own (m:=3) Hs.here rfl) rfl (by decide) (by decide) (by decide) (by decide) (fun g1 c1 r1 a1 a2 a3=>?_)
  repeat (first|refine Ta ?_|(refine Tm ?_;intro _)|refine Tc ?_|exact Tz)
  exact WX.retP_ofN (resP0 rfl) (Lle.cons (by repeat (first|exact Pk.here|apply Pk.there)) rfl (Lle.cons (by repeat (first|exact Pk.here|apply Pk.there)) rfl Lle.nil)) ⟨rfl,g1,c1,r1,rfl,a1,a2,a3⟩
end
end Sx
end Go.Proofs.YtmhligfnchegdaaGreatDoor
namespace Go.Proofs.YtmhligfnchegdaaGreatDoor
open Go Go.RowKit Go.BigFrame
namespace Sx
attribute [local irreducible] wd DQ DQS WO WC WX
section
variable (m:Nat) (a b c d:Value) (bk:Nat) (pl:Option Addr) (nl cl:Nat)
theorem k_Nums0 (hm:m<1000):FnL Tryz.prog 15 [pt bk,.slice pl nl cl] [⟨bk,66,bkC m (.slice none 0 0) b c d⟩] Tr (BkKept bk 138 (fun v=>bkC (m+1) v b c d) [] 1 (heR (.slice pl nl cl) (m+1))):=by
  refine FnL.enter Tryz.func15 rfl rfl rfl ?_
  intro w hw
  repeat (first|refine Ta ?_|(refine Tm ?_;intro _)|refine Tc ?_|exact Tz)
  refine WO.callsL (hc:=k_keepNum0 m b c d bk pl nl cl hm) (hp:=.cons .here .nil) (fun _ _=>trivial) (fun v N hp=>?_)
  obtain⟨rfl,g',c',r',rfl,h1,h2,h3⟩:=hp
  repeat (first|refine Ta ?_|(refine Tm ?_;intro _)|refine Tc ?_|exact Tz)
  exact WX.retP_ofN (resP0 rfl) (Lle.cons (by repeat (first|exact Pk.here|apply Pk.there)) rfl (Lle.cons (by repeat (first|exact Pk.here|apply Pk.there)) rfl Lle.nil)) ⟨rfl,g',c',r',rfl,h1,h2,h3⟩
theorem k_Nums1 (g n cc:Nat) (xs r:List Value) (hm:m<1000) (hn:n<1000) (hx:xs.length=n*3) (hr:(xs++r).length=cc*3) (hcc:cc<9223372036854775808):FnL Tryz.prog 15 [pt bk,.slice pl nl cl] [⟨bk,66,bkC m (.slice (some ⟨g,0,none⟩) n cc) b c d⟩,⟨g,138,xs++r⟩] Tr (BkKept bk 138 (fun v=>bkC (m+1) v b c d) xs (n+1) (heR (.slice pl nl cl) (m+1))):=by
  refine FnL.enter Tryz.func15 rfl rfl rfl ?_
  intro w hw
  repeat (first|refine Ta ?_|(refine Tm ?_;intro _)|refine Tc ?_|exact Tz)
  refine WO.callsL (hc:=k_keepNum1 m b c d bk pl nl cl g n cc xs r hm hn hx hr hcc) (hp:=.cons .here (.cons .here .nil)) (fun _ _=>trivial) (fun v N hp=>?_)
  obtain⟨rfl,g',c',r',rfl,h1,h2,h3⟩:=hp
  repeat (first|refine Ta ?_|(refine Tm ?_;intro _)|refine Tc ?_|exact Tz)
  exact WX.retP_ofN (resP0 rfl) (Lle.cons (by repeat (first|exact Pk.here|apply Pk.there)) rfl (Lle.cons (by repeat (first|exact Pk.here|apply Pk.there)) rfl Lle.nil)) ⟨rfl,g',c',r',rfl,h1,h2,h3⟩
theorem k_Keys0 (hm:m<1000):FnL Tryz.prog 51 [pt bk,.slice pl nl cl] [⟨bk,66,bkC m a (.slice none 0 0) c d⟩] Tr (BkKept bk 162 (fun v=>bkC (m+1) a v c d) [] 1 (heR (.slice pl nl cl) (m+1))):=by
  refine FnL.enter Tryz.func51 rfl rfl rfl ?_
  intro w hw
  repeat (first|refine Ta ?_|(refine Tm ?_;intro _)|refine Tc ?_|exact Tz)
  refine WO.callsL (hc:=k_keepKey0 m a c d bk pl nl cl hm) (hp:=.cons .here .nil) (fun _ _=>trivial) (fun v N hp=>?_)
  obtain⟨rfl,g',c',r',rfl,h1,h2,h3⟩:=hp
  repeat (first|refine Ta ?_|(refine Tm ?_;intro _)|refine Tc ?_|exact Tz)
  exact WX.retP_ofN (resP0 rfl) (Lle.cons (by repeat (first|exact Pk.here|apply Pk.there)) rfl (Lle.cons (by repeat (first|exact Pk.here|apply Pk.there)) rfl Lle.nil)) ⟨rfl,g',c',r',rfl,h1,h2,h3⟩
theorem k_Proofs0 (hm:m<1000):FnL Tryz.prog 53 [pt bk,.slice pl nl cl] [⟨bk,66,bkC m a b (.slice none 0 0) d⟩] Tr (BkKept bk 165 (fun v=>bkC (m+1) a b v d) [] 1 (heR (.slice pl nl cl) (m+1))):=by
  refine FnL.enter Tryz.func53 rfl rfl rfl ?_
  intro w hw
  repeat (first|refine Ta ?_|(refine Tm ?_;intro _)|refine Tc ?_|exact Tz)
  refine WO.callsL (hc:=k_keepProof0 m a b d bk pl nl cl hm) (hp:=.cons .here .nil) (fun _ _=>trivial) (fun v N hp=>?_)
  obtain⟨rfl,g',c',r',rfl,h1,h2,h3⟩:=hp
  repeat (first|refine Ta ?_|(refine Tm ?_;intro _)|refine Tc ?_|exact Tz)
  exact WX.retP_ofN (resP0 rfl) (Lle.cons (by repeat (first|exact Pk.here|apply Pk.there)) rfl (Lle.cons (by repeat (first|exact Pk.here|apply Pk.there)) rfl Lle.nil)) ⟨rfl,g',c',r',rfl,h1,h2,h3⟩
theorem k_Setting (p q g h:Nat) (f sec:Int) (hm:m<1000):FnL Tryz.prog 14 [pt bk,stV p q g h f sec (.slice pl nl cl)] [⟨bk,66,bkC m a (.slice none 0 0) c d⟩] Tr (BkKept bk 162 (fun v=>bkC (m+1) a v c d) [] 1 (heR (.slice pl nl cl) (m+1))):=by
  refine FnL.enter Tryz.func14 rfl rfl rfl ?_
  intro w hw
  repeat (first|refine Ta ?_|(refine Tm ?_;intro _)|refine Tc ?_|exact Tz)
  refine WO.callsL (hc:=k_Keys0 m a c d bk pl nl cl hm) (hp:=.cons (.there .here) .nil) (fun _ _=>trivial) (fun v N hp=>?_)
  obtain⟨rfl,g',c',r',rfl,h1,h2,h3⟩:=hp
  repeat (first|refine Ta ?_|(refine Tm ?_;intro _)|refine Tc ?_|exact Tz)
  exact WX.retP_ofN (resP0 rfl) (Lle.cons (by repeat (first|exact Pk.here|apply Pk.there)) rfl (Lle.cons (by repeat (first|exact Pk.here|apply Pk.there)) rfl Lle.nil)) ⟨rfl,g',c',r',rfl,h1,h2,h3⟩
def BkKeptD (bk:Nat) (F:Value→Value→List Value) (xs:List Value) (n:Nat) (rN rP:List Value):Value→List Ent→Prop:=fun v N =>
  v=.tuple #[]∧∃ g c r g2 c2 r2,N=[⟨bk,66,F (.slice (some ⟨g,0,none⟩) n c) (.slice (some ⟨g2,0,none⟩) 1 c2)⟩,⟨g,138,xs++rN++r⟩,⟨g2,165,rP++r2⟩]∧(xs++rN++r).length=c*3∧c<9223372036854775808∧n≤c∧(rP++r2).length=c2*3∧c2<9223372036854775808∧1≤c2
set_option maxHeartbeats 1000000 in
theorem k_Dealing (g n cc:Nat) (xs r:List Value) (ep dd sC sS:Nat) (pV pY pP:Option Addr) (nV cV nY cY nP cP:Nat) (hm:m<990) (hn:n<990) (hx:xs.length=n*3) (hr:(xs++r).length=cc*3) (hcc:cc<9223372036854775808) :
    FnL Tryz.prog 16 [pt bk,dlV ep dd (.slice pV nV cV) (.slice pY nY cY) (.slice pP nP cP) sC sS] [⟨bk,66,bkC m (.slice (some ⟨g,0,none⟩) n cc) b (.slice none 0 0) d⟩,⟨g,138,xs++r⟩] Tr
      (BkKeptD bk (fun u v=>bkC (m+1+1+1) u b v d) xs (n+1+1) (heR (.slice pV nV cV) (m+1)++heR (.slice pY nY cY) (m+1+1)) (heR (.slice pP nP cP) (m+1+1+1))):=by
  refine FnL.enter Tryz.func16 rfl rfl rfl ?_
  intro w hw
  repeat (first|refine Ta ?_|(refine Tm ?_;intro _)|refine Tc ?_|exact Tz)
  refine WO.callsL (hc:=k_Nums1 m b (.slice none 0 0) d bk pV nV cV g n cc xs r (by omega) (by omega) hx hr hcc) (hp:=.cons (.there .here) (.cons (.there .here) .nil)) (fun _ _=>trivial) (fun v N hp=>?_)
  obtain⟨rfl,g1,c1,r1,rfl,h1,h2,h3⟩:=hp
  repeat (first|refine Ta ?_|(refine Tm ?_;intro _)|refine Tc ?_|exact Tz)
  refine WO.callsL (hc:=k_Nums1 (m+1) b (.slice none 0 0) d bk pY nY cY g1 (n+1) c1 (xs++heR (.slice pV nV cV) (m+1)) r1 (by omega) (by omega) (by rw[List.length_append,hx,Nat.succ_mul];rfl) h1 h2) (hp:=.cons .here (.cons .here .nil)) (fun _ _=>trivial) (fun v N hp=>?_)
  obtain⟨rfl,g2,c2,r2,rfl,h4,h5,h6⟩:=hp
  repeat (first|refine Ta ?_|(refine Tm ?_;intro _)|refine Tc ?_|exact Tz)
  refine WO.callsL (hc:=k_Proofs0 (m+1+1) (.slice (some ⟨g2,0,none⟩) (n+1+1) c2) b d bk pP nP cP (by omega)) (hp:=.cons .here .nil) (fun _ _=>trivial) (fun v N hp=>?_)
  obtain⟨rfl,g3,c3,r3,rfl,h7,h8,h9⟩:=hp
  repeat (first|refine Ta ?_|(refine Tm ?_;intro _)|refine Tc ?_|exact Tz)
  rw[List.append_assoc xs] at h4 ⊢
  exact WX.retP_ofN (resP0 rfl) (Lle.cons (by repeat (first|exact Pk.here|apply Pk.there)) rfl (Lle.cons (by repeat (first|exact Pk.here|apply Pk.there)) rfl (Lle.cons (by repeat (first|exact Pk.here|apply Pk.there)) rfl Lle.nil))) ⟨rfl,g2,c2,r2,g3,c3,r3,rfl,h4,h5,h6,h7,h8,h9⟩
end
end Sx
end Go.Proofs.YtmhligfnchegdaaGreatDoor
namespace Go.Proofs.YtmhligfnchegdaaGreatDoor
open Go Go.RowKit Go.BigFrame
namespace Sx
section
variable {β:Type} {A A' B:Nat→List β} {n i:Nat}
def stL (A B:Nat→List β) (n i:Nat):List β:=(List.range n).flatMap fun k=>if k<i then A k else B k
def stR (A B:Nat→List β) (n i:Nat):List β:=(List.range i).flatMap A++(List.range' (i+1) (n - (i+1))).flatMap B
theorem flat_congr {α β:Type} {f g:α→List β}:∀ {l:List α},(∀ x∈l,f x=g x)→l.flatMap f=l.flatMap g
  | [],_=>rfl
  | a::r,h=>by rw[List.flatMap_cons,List.flatMap_cons,h a (by simp),flat_congr (fun x hx=>h x (by simp[hx]))]
theorem range_split (h:i<n):List.range n=List.range i++i::List.range' (i+1) (n - (i+1)):=by
  rw[List.range_eq_range',List.range_eq_range']
  have e1:List.range' 0 n=List.range' 0 i++List.range' i (n - i):=by
    have:=List.range'_append (s:=0) (m:=i) (n:=n - i) (step:=1)
    rw[Nat.zero_add,Nat.one_mul,show i+(n - i)=n by omega] at this
    exact this.symm
  have e2:List.range' i (n - i)=i::List.range' (i+1) (n - (i+1)):=by
    rw[show n - i=(n - (i+1))+1 by omega]
    rfl
  rw[e1,e2]
theorem stL_at (h:i<n):stL A B n i=(List.range i).flatMap A++(B i++(List.range' (i+1) (n - (i+1))).flatMap B):=by
  unfold stL
  rw[range_split h,List.flatMap_append,List.flatMap_cons,if_neg (Nat.lt_irrefl i)]
  congr 1
  · exact flat_congr fun x hx=>if_pos (List.mem_range.1 hx)
  · congr 1
    exact flat_congr fun x hx=>if_neg (by have:=(List.mem_range'_1.1 hx).1;omega)
theorem stL_next (h:i<n):stL A B n (i+1)=(List.range i).flatMap A++(A i++(List.range' (i+1) (n - (i+1))).flatMap B):=by
  unfold stL
  rw[range_split h,List.flatMap_append,List.flatMap_cons,if_pos (Nat.lt_succ_self i)]
  congr 1
  · exact flat_congr fun x hx=>if_pos (Nat.lt_succ_of_lt (List.mem_range.1 hx))
  · congr 1
    exact flat_congr fun x hx=>if_neg (by have:=(List.mem_range'_1.1 hx).1;omega)
theorem stL_zero:stL A B n 0=(List.range n).flatMap B:=flat_congr fun _ _=>if_neg (Nat.not_lt_zero _)
theorem stL_full:stL A B n n=(List.range n).flatMap A:=flat_congr fun _ hx=>if_pos (List.mem_range.1 hx)
theorem stL_perm (h:i<n):(stL A B n i).Perm (B i++stR A B n i):=by
  rw[stL_at h]
  unfold stR
  rw[← List.append_assoc,← List.append_assoc]
  exact List.Perm.append_right _ List.perm_append_comm
theorem stL_perm1 (h:i<n):(stL A B n (i+1)).Perm (A i++stR A B n i):=by
  rw[stL_next h]
  unfold stR
  rw[← List.append_assoc,← List.append_assoc]
  exact List.Perm.append_right _ List.perm_append_comm
theorem stR_congr (h:∀ k,k<i→A k=A' k):stR A B n i=stR A' B n i:=by
  unfold stR
  rw[flat_congr fun x hx=>h x (List.mem_range.1 hx)]
end
theorem stL_congr {β:Type} {A A' B:Nat→List β} {n i:Nat} (h:∀ k,k<i→A k=A' k):stL A B n i=stL A' B n i:=by
  unfold stL
  exact flat_congr fun x _=>by by_cases hx:x<i<;>simp[hx,h]
theorem perm3 {a b c:Ent} {X R:List Ent}:(a::b::c::(X++R)).Perm (X++(a::b::c::R)):=by
  have:([a,b,c]++X++R).Perm (X++[a,b,c]++R):=List.Perm.append_right _ List.perm_append_comm
  simpa using this
theorem cut_mkz {n k z:Nat} {M:List Value} (hM:M.length=z) (h:k<n):cut (mkz n M) (k*z) z=M:=by
  subst hM
  have e:mkz n M=mkz k M++(M++mkz (n - k - 1) M):=by
    rw[show n=k+1+(n - k - 1) by omega,mkz_add,mkz_snoc,List.append_assoc]
    congr 3
    omega
  rw[e]
  unfold cut
  rw[← mkz_length k M,List.drop_left,List.take_left]
theorem over_st {X Y:Nat→List Value} {n i:Nat} {a u v c:Value} {r:List Value} (h:i<n) (hX:∀ k,(X k).length=3) (hx:X i=[a,v,c]) (hy:Y i=[a,u,c]):over (stL X Y n i++r) (i*3+1) [v]=stL X Y n (i+1)++r:=by
  rw[stL_at h,stL_next h,hx,hy]
  have hl:((List.range i).flatMap X++[a]).length=i*3+1:=by rw[List.length_append,flat_length hX,List.length_range];rfl
  have e:=over_end (xs:=(List.range i).flatMap X++[a]) (r:=[u,c]++(List.range' (i+1) (n - (i+1))).flatMap Y++r) (ys:=[v])
  rw[hl] at e
  simp only[List.append_assoc,List.cons_append,List.nil_append,List.length_cons,List.length_nil,List.drop_succ_cons,List.drop_zero] at e ⊢
  exact e
theorem stL_len3 {X Y:Nat→List Value} {n i:Nat} (hX:∀ k,(X k).length=3) (hY:∀ k,(Y k).length=3):(stL X Y n i).length=n*3:=by
  unfold stL
  rw[flat_length (k:=3) (fun k=>by by_cases hk:k<i<;>simp[hk,hX,hY]),List.length_range]
theorem cut_st {X Y:Nat→List Value} {n i:Nat} {r:List Value} (h:i<n) (hX:∀ k,(X k).length=3) (hY:∀ k,(Y k).length=3):cut (stL X Y n i++r) (i*3) 3=Y i:=by
  have hl:((List.range i).flatMap X).length=i*3:=by rw[flat_length hX,List.length_range]
  rw[stL_at h]
  unfold cut
  rw[List.append_assoc,← hl,List.drop_left,List.append_assoc,← hY i,List.take_left]
theorem cut_st0 {Y:Nat→List Value} {n i:Nat} {r:List Value} (h:i<n) (hY:∀ k,(Y k).length=3):cut ((List.range n).flatMap Y++r) (i*3) 3=Y i:=by
  have:=cut_st (X:=Y) (Y:=Y) (r:=r) h hY hY
  unfold stL at this
  simpa using this
theorem Pks.app {M R:List Ent}:Pks (M++R) M R:=by
  induction M with
  | nil=>exact .nil
  | cons e r ih=>exact .cons .here ih
section
variable {P:Program} {w0:World} {gs:List Nat} {n:Nat} {ops:List Oper} {Q:Exit→Act→World→Prop} {K:List (Nat × Value)} {L L' : List Ent} {rest:List Oper}
theorem WX.dropL {e:Exit} (hp:L'.Sublist L) (k:WX w0 gs n e Q K L'):WX w0 gs n e Q K L:=fun a w h1 h2 h3 h4=>k a w h1 h2 h3 (h4.sub hp)
end
end Sx
end Go.Proofs.YtmhligfnchegdaaGreatDoor
