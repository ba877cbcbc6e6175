/- Part 53 of the proof. -/
import Derived.Test.YtbhblpnjhkddbaaGreatE52
import Derived.Test.YtbhblpnjhkddbaaGreatE51
set_option linter.unusedSimpArgs false
set_option linter.unusedVariables false
set_option maxHeartbeats 8000000
namespace Go.Proofs.YtbhblpnjhkddbaaGreat
section
open Go Go.RowKit Go.BigFrame
namespace Sx
attribute [local irreducible] DQ DQS WC WO WX wd
section
variable (p q g h:Nat) (f sec:Int) (pt:Option Addr) (c:Nat) (N:List (Nat × Nat)) (ep d x:Nat) (pz:Option Addr) (cz:Nat) (l:List Nat) (px:Option Addr) (cx:Nat) (X:List Nat) (a:Nat)
theorem cI (hA:Fn Tryz.prog 9 [] Tr (Is (.bool true))) (hp:p<zc) (hq:q<zc) (hg:g<zc) (hh:h<zc) (hN:yC N) (hl:∀ a∈l,a<zc) (hX:∀ a∈X,a<zc) (ha:a<256)
  (hf1 : -9223372036854775808≤f) (hf2:f≤9223372036854775807) (hs1 : -9223372036854775808≤sec) (hs2:sec≤9223372036854775807) (hd:d<256) (hx:x<zc) (hep:ep<18446744073709551616) :
  Fn Tryz.prog 5 [stV p q g h f sec (.slice pt N.length c),dtV ep d (.slice pz l.length cz) x (.slice px X.length cx),.int .u8 (a:Int)]
   (fun w=>RdF y7 (.slice pt N.length c) N w∧RdF zb (.slice pz l.length cz) l w∧RdF zb (.slice px X.length cx) X w) (Is (.bool true)):=by
 have hD:=oM p q g h f sec pt c N ep d x pz cz l px cx X hp hq hg hh hN hl hX hf1 hf2 hs1 hs2 hd hx hep;cases e1:sF p q g h f sec N l d x X with
 | false =>
  have hD':=hD.weak (post':=Is dtN) (fun w hw=>hw) (fun v L hv=>hv.2 e1);refine Fn.enter Tryz.func5 rfl rfl rfl ?_;intro w hw;obtain⟨wN,wl,wX⟩:=hw
  repeat (first|refine Ta ?_|(refine Tm ?_;intro _)|refine WO.acall (hc:=hA) (k:=?_)|refine WO.acallR (hc:=hD') (hR:=fun w1 hm=>⟨wN.mod hm.mod,wl.mod hm.mod,wX.mod hm.mod⟩) (k:=?_)|refine Tc ?_|exact Tz)
  done
 | true =>
  obtain⟨F,m,rfl,rfl,hF,hm⟩:=jR e1;exact j5 p q g h F m pt c N ep d x pz cz l px cx X a hA hp hq hg hh hN hl hX ha hd hx hep hF hm e1
end
end Sx
end
end Go.Proofs.YtbhblpnjhkddbaaGreat
