/- Part 45 of the proof. -/
import Derived.Test.YteibfbjpkjkejaaGreatDoorS42
set_option linter.unusedSimpArgs false
set_option linter.unusedVariables false
set_option maxHeartbeats 8000000
namespace Go.Proofs.YteibfbjpkjkejaaGreatDoor
section
open Go Go.RowKit Go.BigFrame
namespace Sx
attribute [local irreducible] DQ DQS WC WI WO WX wd
section
variable (p q g h:Nat) (f sec:Int) (pN pV pY pP:Option Addr) (cN cV cY cP:Nat) (N:List (Nat × Nat)) (ep d:Nat) (V Y:List Nat) (Pr:List (Nat × Nat)) (sC sS:Nat)
theorem fU (r:Option Int) (hAsk:∀ gS gD gg gn gi,aaI (CkR p q g h f sec pN pV pY pP cN cV cY cP N ep d V Y Pr sC sS gS gD gg gn gi)
   [(57,[pt gS]),(59,[pt gS,pt gD,pt gn,pt gi]),(60,[pt gg,pt gD,pt gS]),(62,[pt gD,pt gg,pt gS]),(64,[pt gg,pt gS,pt gD])] r) :
  Fn Tryz.prog 26 [stV p q g h f sec (.slice pN N.length cN),dlV ep d (.slice pV V.length cV) (.slice pY Y.length cY) (.slice pP Pr.length cP) sC sS]
   (fun w=>(RdF yw (.slice pN N.length cN) N w∧RdF zc (.slice pV V.length cV) V w∧RdF zc (.slice pY Y.length cY) Y w∧RdF pfC (.slice pP Pr.length cP) Pr w)∧oy w) (Is (.int .i64 (r.getD 0))):=by
 refine Fn.enter Tryz.func26 rfl rfl rfl ?_;intro w hw;obtain⟨⟨hN,hV,hY,hP⟩,hH⟩:=hw
 repeat (first|refine Tw ?_|(refine Tm ?_;intro _)|exact Tz)
 rename_i gS gD;refine WC.allA (fun A hA=>?_)
 suffices hS511:∀ q5 q6,A [(8,pt gS),(9,yo p q g h),(10,.pointer (some ⟨gS,18,none⟩)),(11,.slice pN N.length cN),(12,.int .i64 (N.length:Int)),(5,pt q5),(6,pt q6),(2,pt gS),(3,pt gD),(4,.int .i64 0)] [⟨q5,26,zL p q g h⟩,⟨q6,3,[.int .i64 (N.length:Int)]⟩,⟨gD,50,dlC ep d (.slice pV V.length cV) (.slice pY Y.length cY) (.slice pP Pr.length cP) sC sS⟩,⟨gS,37,stC p q g h f sec (.slice pN N.length cN)⟩] (bt 9 511) 0 by
  have hS255:∀ q5 q6,A [(8,pt gS),(9,yo p q g h),(10,.pointer (some ⟨gS,18,none⟩)),(11,.slice pN N.length cN),(12,.int .i64 (N.length:Int)),(5,pt q5),(6,pt q6),(2,pt gS),(3,pt gD),(4,.int .i64 0)] [⟨q5,26,zL p q g h⟩,⟨q6,3,[.int .i64 0]⟩,⟨gD,50,dlC ep d (.slice pV V.length cV) (.slice pY Y.length cY) (.slice pP Pr.length cP) sC sS⟩,⟨gS,37,stC p q g h f sec (.slice pN N.length cN)⟩] (bt 9 255) 1:=by
   intro q5 q6;refine (hA _ _ _ _).2 (WA.step [8] (.cons ?_ .nil))
   ·refine Tw ?_;exact WA.go hA (hS511 q5 q6)
  have hS127:∀ q5 q6,A [(8,pt gS),(9,yo p q g h),(10,.pointer (some ⟨gS,18,none⟩)),(11,.slice pN N.length cN),(12,.int .i64 (N.length:Int)),(5,pt q5),(6,pt q6),(2,pt gS),(3,pt gD),(4,.int .i64 0)] [⟨q5,26,zL 0 0 0 0⟩,⟨q6,3,[.int .i64 0]⟩,⟨gD,50,dlC ep d (.slice pV V.length cV) (.slice pY Y.length cY) (.slice pP Pr.length cP) sC sS⟩,⟨gS,37,stC p q g h f sec (.slice pN N.length cN)⟩] (bt 9 127) 2:=by
   intro q5 q6;refine (hA _ _ _ _).2 (WA.step [7] (.cons ?_ .nil))
   ·refine Tw ?_;exact WA.go hA (hS255 q5 q6)
  have hS239:∀ q5 q6,A [(8,pt gS),(9,yo p q g h),(10,.pointer (some ⟨gS,18,none⟩)),(11,.slice pN N.length cN),(5,pt q5),(6,pt q6),(2,pt gS),(3,pt gD),(4,.int .i64 0)] [⟨q5,26,zL p q g h⟩,⟨q6,3,[.int .i64 0]⟩,⟨gD,50,dlC ep d (.slice pV V.length cV) (.slice pY Y.length cY) (.slice pP Pr.length cP) sC sS⟩,⟨gS,37,stC p q g h f sec (.slice pN N.length cN)⟩] (bt 9 239) 2:=by
   intro q5 q6;refine (hA _ _ _ _).2 (WA.step [4] (.cons ?_ .nil))
   ·refine Tw ?_;exact WA.go hA (hS255 q5 q6)
  have hS63:∀ q5,A [(8,pt gS),(9,yo p q g h),(10,.pointer (some ⟨gS,18,none⟩)),(11,.slice pN N.length cN),(12,.int .i64 (N.length:Int)),(5,pt q5),(2,pt gS),(3,pt gD),(4,.int .i64 0)] [⟨q5,26,zL 0 0 0 0⟩,⟨gD,50,dlC ep d (.slice pV V.length cV) (.slice pY Y.length cY) (.slice pP Pr.length cP) sC sS⟩,⟨gS,37,stC p q g h f sec (.slice pN N.length cN)⟩] (bt 9 63) 3:=by
   intro q5;refine (hA _ _ _ _).2 (WA.step [6] (.cons ?_ .nil))
   ·(refine WO.autoM (k:=?_);intro q6);exact WA.go hA (hS127 q5 q6)
  have hS95:∀ q6,A [(8,pt gS),(9,yo p q g h),(10,.pointer (some ⟨gS,18,none⟩)),(11,.slice pN N.length cN),(12,.int .i64 (N.length:Int)),(6,pt q6),(2,pt gS),(3,pt gD),(4,.int .i64 0)] [⟨q6,3,[.int .i64 0]⟩,⟨gD,50,dlC ep d (.slice pV V.length cV) (.slice pY Y.length cY) (.slice pP Pr.length cP) sC sS⟩,⟨gS,37,stC p q g h f sec (.slice pN N.length cN)⟩] (bt 9 95) 3:=by
   intro q6;refine (hA _ _ _ _).2 (WA.step [5] (.cons ?_ .nil))
   ·(refine WO.autoM (k:=?_);intro q5);exact WA.go hA (hS127 q5 q6)
  have hS111:∀ q5 q6,A [(8,pt gS),(9,yo p q g h),(10,.pointer (some ⟨gS,18,none⟩)),(11,.slice pN N.length cN),(5,pt q5),(6,pt q6),(2,pt gS),(3,pt gD),(4,.int .i64 0)] [⟨q5,26,zL 0 0 0 0⟩,⟨q6,3,[.int .i64 0]⟩,⟨gD,50,dlC ep d (.slice pV V.length cV) (.slice pY Y.length cY) (.slice pP Pr.length cP) sC sS⟩,⟨gS,37,stC p q g h f sec (.slice pN N.length cN)⟩] (bt 9 111) 3:=by
   intro q5 q6;refine (hA _ _ _ _).2 (WA.step [4,7] (.cons ?_ (.cons ?_ .nil)))
   ·refine Tw ?_;exact WA.go hA (hS127 q5 q6)
   ·refine Tw ?_;exact WA.go hA (hS239 q5 q6)
  have hS231:∀ q5 q6,A [(8,pt gS),(9,yo p q g h),(10,.pointer (some ⟨gS,18,none⟩)),(5,pt q5),(6,pt q6),(2,pt gS),(3,pt gD),(4,.int .i64 0)] [⟨q5,26,zL p q g h⟩,⟨q6,3,[.int .i64 0]⟩,⟨gD,50,dlC ep d (.slice pV V.length cV) (.slice pY Y.length cY) (.slice pP Pr.length cP) sC sS⟩,⟨gS,37,stC p q g h f sec (.slice pN N.length cN)⟩] (bt 9 231) 3:=by
   intro q5 q6;refine (hA _ _ _ _).2 (WA.step [3] (.cons ?_ .nil))
   ·refine Tw ?_;exact WA.go hA (hS239 q5 q6)
  have hS125:∀ q5 q6,A [(8,pt gS),(10,.pointer (some ⟨gS,18,none⟩)),(11,.slice pN N.length cN),(12,.int .i64 (N.length:Int)),(5,pt q5),(6,pt q6),(2,pt gS),(3,pt gD),(4,.int .i64 0)] [⟨q5,26,zL 0 0 0 0⟩,⟨q6,3,[.int .i64 0]⟩,⟨gD,50,dlC ep d (.slice pV V.length cV) (.slice pY Y.length cY) (.slice pP Pr.length cP) sC sS⟩,⟨gS,37,stC p q g h f sec (.slice pN N.length cN)⟩] (bt 9 125) 3:=by
   intro q5 q6;refine (hA _ _ _ _).2 (WA.step [1] (.cons ?_ .nil))
   ·refine WO.does (zy (vs:=zL p q g h)) ?_;exact WA.go hA (hS127 q5 q6)
  have hS31:A [(8,pt gS),(9,yo p q g h),(10,.pointer (some ⟨gS,18,none⟩)),(11,.slice pN N.length cN),(12,.int .i64 (N.length:Int)),(2,pt gS),(3,pt gD),(4,.int .i64 0)] [⟨gD,50,dlC ep d (.slice pV V.length cV) (.slice pY Y.length cY) (.slice pP Pr.length cP) sC sS⟩,⟨gS,37,stC p q g h f sec (.slice pN N.length cN)⟩] (bt 9 31) 4:=by
   refine (hA _ _ _ _).2 (WA.step [5,6] (.cons ?_ (.cons ?_ .nil)))
   ·(refine WO.autoM (k:=?_);intro q5);exact WA.go hA (hS63 q5)
   ·(refine WO.autoM (k:=?_);intro q6);exact WA.go hA (hS95 q6)
  have hS47:∀ q5,A [(8,pt gS),(9,yo p q g h),(10,.pointer (some ⟨gS,18,none⟩)),(11,.slice pN N.length cN),(5,pt q5),(2,pt gS),(3,pt gD),(4,.int .i64 0)] [⟨q5,26,zL 0 0 0 0⟩,⟨gD,50,dlC ep d (.slice pV V.length cV) (.slice pY Y.length cY) (.slice pP Pr.length cP) sC sS⟩,⟨gS,37,stC p q g h f sec (.slice pN N.length cN)⟩] (bt 9 47) 4:=by
   intro q5;refine (hA _ _ _ _).2 (WA.step [4,6] (.cons ?_ (.cons ?_ .nil)))
   ·refine Tw ?_;exact WA.go hA (hS63 q5)
   ·(refine WO.autoM (k:=?_);intro q6);exact WA.go hA (hS111 q5 q6)
  have hS79:∀ q6,A [(8,pt gS),(9,yo p q g h),(10,.pointer (some ⟨gS,18,none⟩)),(11,.slice pN N.length cN),(6,pt q6),(2,pt gS),(3,pt gD),(4,.int .i64 0)] [⟨q6,3,[.int .i64 0]⟩,⟨gD,50,dlC ep d (.slice pV V.length cV) (.slice pY Y.length cY) (.slice pP Pr.length cP) sC sS⟩,⟨gS,37,stC p q g h f sec (.slice pN N.length cN)⟩] (bt 9 79) 4:=by
   intro q6;refine (hA _ _ _ _).2 (WA.step [4,5] (.cons ?_ (.cons ?_ .nil)))
   ·refine Tw ?_;exact WA.go hA (hS95 q6)
   ·(refine WO.autoM (k:=?_);intro q5);exact WA.go hA (hS111 q5 q6)
  have hS103:∀ q5 q6,A [(8,pt gS),(9,yo p q g h),(10,.pointer (some ⟨gS,18,none⟩)),(5,pt q5),(6,pt q6),(2,pt gS),(3,pt gD),(4,.int .i64 0)] [⟨q5,26,zL 0 0 0 0⟩,⟨q6,3,[.int .i64 0]⟩,⟨gD,50,dlC ep d (.slice pV V.length cV) (.slice pY Y.length cY) (.slice pP Pr.length cP) sC sS⟩,⟨gS,37,stC p q g h f sec (.slice pN N.length cN)⟩] (bt 9 103) 4:=by
   intro q5 q6;refine (hA _ _ _ _).2 (WA.step [3,7] (.cons ?_ (.cons ?_ .nil)))
   ·refine Tw ?_;exact WA.go hA (hS111 q5 q6)
   ·refine Tw ?_;exact WA.go hA (hS231 q5 q6)
  have hS227:∀ q5 q6,A [(8,pt gS),(9,yo p q g h),(5,pt q5),(6,pt q6),(2,pt gS),(3,pt gD),(4,.int .i64 0)] [⟨q5,26,zL p q g h⟩,⟨q6,3,[.int .i64 0]⟩,⟨gD,50,dlC ep d (.slice pV V.length cV) (.slice pY Y.length cY) (.slice pP Pr.length cP) sC sS⟩,⟨gS,37,stC p q g h f sec (.slice pN N.length cN)⟩] (bt 9 227) 4:=by
   intro q5 q6;refine (hA _ _ _ _).2 (WA.step [2] (.cons ?_ .nil))
   ·refine Tw ?_;exact WA.go hA (hS231 q5 q6)
  have hS61:∀ q5,A [(8,pt gS),(10,.pointer (some ⟨gS,18,none⟩)),(11,.slice pN N.length cN),(12,.int .i64 (N.length:Int)),(5,pt q5),(2,pt gS),(3,pt gD),(4,.int .i64 0)] [⟨q5,26,zL 0 0 0 0⟩,⟨gD,50,dlC ep d (.slice pV V.length cV) (.slice pY Y.length cY) (.slice pP Pr.length cP) sC sS⟩,⟨gS,37,stC p q g h f sec (.slice pN N.length cN)⟩] (bt 9 61) 4:=by
   intro q5;refine (hA _ _ _ _).2 (WA.step [1,6] (.cons ?_ (.cons ?_ .nil)))
   ·refine WO.does (zy (vs:=zL p q g h)) ?_;exact WA.go hA (hS63 q5)
   ·(refine WO.autoM (k:=?_);intro q6);exact WA.go hA (hS125 q5 q6)
  have hS93:∀ q6,A [(8,pt gS),(10,.pointer (some ⟨gS,18,none⟩)),(11,.slice pN N.length cN),(12,.int .i64 (N.length:Int)),(6,pt q6),(2,pt gS),(3,pt gD),(4,.int .i64 0)] [⟨q6,3,[.int .i64 0]⟩,⟨gD,50,dlC ep d (.slice pV V.length cV) (.slice pY Y.length cY) (.slice pP Pr.length cP) sC sS⟩,⟨gS,37,stC p q g h f sec (.slice pN N.length cN)⟩] (bt 9 93) 4:=by
   intro q6;refine (hA _ _ _ _).2 (WA.step [1,5] (.cons ?_ (.cons ?_ .nil)))
   ·refine WO.does (zy (vs:=zL p q g h)) ?_;exact WA.go hA (hS95 q6)
   ·(refine WO.autoM (k:=?_);intro q5);exact WA.go hA (hS125 q5 q6)
  have hS109:∀ q5 q6,A [(8,pt gS),(10,.pointer (some ⟨gS,18,none⟩)),(11,.slice pN N.length cN),(5,pt q5),(6,pt q6),(2,pt gS),(3,pt gD),(4,.int .i64 0)] [⟨q5,26,zL 0 0 0 0⟩,⟨q6,3,[.int .i64 0]⟩,⟨gD,50,dlC ep d (.slice pV V.length cV) (.slice pY Y.length cY) (.slice pP Pr.length cP) sC sS⟩,⟨gS,37,stC p q g h f sec (.slice pN N.length cN)⟩] (bt 9 109) 4:=by
   intro q5 q6;refine (hA _ _ _ _).2 (WA.step [1,4] (.cons ?_ (.cons ?_ .nil)))
   ·refine WO.does (zy (vs:=zL p q g h)) ?_;exact WA.go hA (hS111 q5 q6)
   ·refine Tw ?_;exact WA.go hA (hS125 q5 q6)
  have hS124:∀ q5 q6,A [(10,.pointer (some ⟨gS,18,none⟩)),(11,.slice pN N.length cN),(12,.int .i64 (N.length:Int)),(5,pt q5),(6,pt q6),(2,pt gS),(3,pt gD),(4,.int .i64 0)] [⟨q5,26,zL 0 0 0 0⟩,⟨q6,3,[.int .i64 0]⟩,⟨gD,50,dlC ep d (.slice pV V.length cV) (.slice pY Y.length cY) (.slice pP Pr.length cP) sC sS⟩,⟨gS,37,stC p q g h f sec (.slice pN N.length cN)⟩] (bt 9 124) 4:=by
   intro q5 q6;refine (hA _ _ _ _).2 (WA.step [0] (.cons ?_ .nil))
   ·refine Tw ?_;exact WA.go hA (hS125 q5 q6)
  have hS15:A [(8,pt gS),(9,yo p q g h),(10,.pointer (some ⟨gS,18,none⟩)),(11,.slice pN N.length cN),(2,pt gS),(3,pt gD),(4,.int .i64 0)] [⟨gD,50,dlC ep d (.slice pV V.length cV) (.slice pY Y.length cY) (.slice pP Pr.length cP) sC sS⟩,⟨gS,37,stC p q g h f sec (.slice pN N.length cN)⟩] (bt 9 15) 5:=by
   refine (hA _ _ _ _).2 (WA.step [4,5,6] (.cons ?_ (.cons ?_ (.cons ?_ .nil))))
   ·refine Tw ?_;exact WA.go hA (hS31)
   ·(refine WO.autoM (k:=?_);intro q5);exact WA.go hA (hS47 q5)
   ·(refine WO.autoM (k:=?_);intro q6);exact WA.go hA (hS79 q6)
  have hS39:∀ q5,A [(8,pt gS),(9,yo p q g h),(10,.pointer (some ⟨gS,18,none⟩)),(5,pt q5),(2,pt gS),(3,pt gD),(4,.int .i64 0)] [⟨q5,26,zL 0 0 0 0⟩,⟨gD,50,dlC ep d (.slice pV V.length cV) (.slice pY Y.length cY) (.slice pP Pr.length cP) sC sS⟩,⟨gS,37,stC p q g h f sec (.slice pN N.length cN)⟩] (bt 9 39) 5:=by
   intro q5;refine (hA _ _ _ _).2 (WA.step [3,6] (.cons ?_ (.cons ?_ .nil)))
   ·refine Tw ?_;exact WA.go hA (hS47 q5)
   ·(refine WO.autoM (k:=?_);intro q6);exact WA.go hA (hS103 q5 q6)
  have hS71:∀ q6,A [(8,pt gS),(9,yo p q g h),(10,.pointer (some ⟨gS,18,none⟩)),(6,pt q6),(2,pt gS),(3,pt gD),(4,.int .i64 0)] [⟨q6,3,[.int .i64 0]⟩,⟨gD,50,dlC ep d (.slice pV V.length cV) (.slice pY Y.length cY) (.slice pP Pr.length cP) sC sS⟩,⟨gS,37,stC p q g h f sec (.slice pN N.length cN)⟩] (bt 9 71) 5:=by
   intro q6;refine (hA _ _ _ _).2 (WA.step [3,5] (.cons ?_ (.cons ?_ .nil)))
   ·refine Tw ?_;exact WA.go hA (hS79 q6)
   ·(refine WO.autoM (k:=?_);intro q5);exact WA.go hA (hS103 q5 q6)
  have hS99:∀ q5 q6,A [(8,pt gS),(9,yo p q g h),(5,pt q5),(6,pt q6),(2,pt gS),(3,pt gD),(4,.int .i64 0)] [⟨q5,26,zL 0 0 0 0⟩,⟨q6,3,[.int .i64 0]⟩,⟨gD,50,dlC ep d (.slice pV V.length cV) (.slice pY Y.length cY) (.slice pP Pr.length cP) sC sS⟩,⟨gS,37,stC p q g h f sec (.slice pN N.length cN)⟩] (bt 9 99) 5:=by
   intro q5 q6;refine (hA _ _ _ _).2 (WA.step [2,7] (.cons ?_ (.cons ?_ .nil)))
   ·refine Tw ?_;exact WA.go hA (hS103 q5 q6)
   ·refine Tw ?_;exact WA.go hA (hS227 q5 q6)
  have hS29:A [(8,pt gS),(10,.pointer (some ⟨gS,18,none⟩)),(11,.slice pN N.length cN),(12,.int .i64 (N.length:Int)),(2,pt gS),(3,pt gD),(4,.int .i64 0)] [⟨gD,50,dlC ep d (.slice pV V.length cV) (.slice pY Y.length cY) (.slice pP Pr.length cP) sC sS⟩,⟨gS,37,stC p q g h f sec (.slice pN N.length cN)⟩] (bt 9 29) 5:=by
   refine (hA _ _ _ _).2 (WA.step [1,5,6] (.cons ?_ (.cons ?_ (.cons ?_ .nil))))
   ·refine WO.does (zy (vs:=zL p q g h)) ?_;exact WA.go hA (hS31)
   ·(refine WO.autoM (k:=?_);intro q5);exact WA.go hA (hS61 q5)
   ·(refine WO.autoM (k:=?_);intro q6);exact WA.go hA (hS93 q6)
  have hS45:∀ q5,A [(8,pt gS),(10,.pointer (some ⟨gS,18,none⟩)),(11,.slice pN N.length cN),(5,pt q5),(2,pt gS),(3,pt gD),(4,.int .i64 0)] [⟨q5,26,zL 0 0 0 0⟩,⟨gD,50,dlC ep d (.slice pV V.length cV) (.slice pY Y.length cY) (.slice pP Pr.length cP) sC sS⟩,⟨gS,37,stC p q g h f sec (.slice pN N.length cN)⟩] (bt 9 45) 5:=by
   intro q5;refine (hA _ _ _ _).2 (WA.step [1,4,6] (.cons ?_ (.cons ?_ (.cons ?_ .nil))))
   ·refine WO.does (zy (vs:=zL p q g h)) ?_;exact WA.go hA (hS47 q5)
   ·refine Tw ?_;exact WA.go hA (hS61 q5)
   ·(refine WO.autoM (k:=?_);intro q6);exact WA.go hA (hS109 q5 q6)
  have hS77:∀ q6,A [(8,pt gS),(10,.pointer (some ⟨gS,18,none⟩)),(11,.slice pN N.length cN),(6,pt q6),(2,pt gS),(3,pt gD),(4,.int .i64 0)] [⟨q6,3,[.int .i64 0]⟩,⟨gD,50,dlC ep d (.slice pV V.length cV) (.slice pY Y.length cY) (.slice pP Pr.length cP) sC sS⟩,⟨gS,37,stC p q g h f sec (.slice pN N.length cN)⟩] (bt 9 77) 5:=by
   intro q6;refine (hA _ _ _ _).2 (WA.step [1,4,5] (.cons ?_ (.cons ?_ (.cons ?_ .nil))))
   ·refine WO.does (zy (vs:=zL p q g h)) ?_;exact WA.go hA (hS79 q6)
   ·refine Tw ?_;exact WA.go hA (hS93 q6)
   ·(refine WO.autoM (k:=?_);intro q5);exact WA.go hA (hS109 q5 q6)
  have hS101:∀ q5 q6,A [(8,pt gS),(10,.pointer (some ⟨gS,18,none⟩)),(5,pt q5),(6,pt q6),(2,pt gS),(3,pt gD),(4,.int .i64 0)] [⟨q5,26,zL 0 0 0 0⟩,⟨q6,3,[.int .i64 0]⟩,⟨gD,50,dlC ep d (.slice pV V.length cV) (.slice pY Y.length cY) (.slice pP Pr.length cP) sC sS⟩,⟨gS,37,stC p q g h f sec (.slice pN N.length cN)⟩] (bt 9 101) 5:=by
   intro q5 q6;refine (hA _ _ _ _).2 (WA.step [1,3] (.cons ?_ (.cons ?_ .nil)))
   ·refine WO.does (zy (vs:=zL p q g h)) ?_;exact WA.go hA (hS103 q5 q6)
   ·refine Tw ?_;exact WA.go hA (hS109 q5 q6)
  have hS60:∀ q5,A [(10,.pointer (some ⟨gS,18,none⟩)),(11,.slice pN N.length cN),(12,.int .i64 (N.length:Int)),(5,pt q5),(2,pt gS),(3,pt gD),(4,.int .i64 0)] [⟨q5,26,zL 0 0 0 0⟩,⟨gD,50,dlC ep d (.slice pV V.length cV) (.slice pY Y.length cY) (.slice pP Pr.length cP) sC sS⟩,⟨gS,37,stC p q g h f sec (.slice pN N.length cN)⟩] (bt 9 60) 5:=by
   intro q5;refine (hA _ _ _ _).2 (WA.step [0,6] (.cons ?_ (.cons ?_ .nil)))
   ·refine Tw ?_;exact WA.go hA (hS61 q5)
   ·(refine WO.autoM (k:=?_);intro q6);exact WA.go hA (hS124 q5 q6)
  have hS92:∀ q6,A [(10,.pointer (some ⟨gS,18,none⟩)),(11,.slice pN N.length cN),(12,.int .i64 (N.length:Int)),(6,pt q6),(2,pt gS),(3,pt gD),(4,.int .i64 0)] [⟨q6,3,[.int .i64 0]⟩,⟨gD,50,dlC ep d (.slice pV V.length cV) (.slice pY Y.length cY) (.slice pP Pr.length cP) sC sS⟩,⟨gS,37,stC p q g h f sec (.slice pN N.length cN)⟩] (bt 9 92) 5:=by
   intro q6;refine (hA _ _ _ _).2 (WA.step [0,5] (.cons ?_ (.cons ?_ .nil)))
   ·refine Tw ?_;exact WA.go hA (hS93 q6)
   ·(refine WO.autoM (k:=?_);intro q5);exact WA.go hA (hS124 q5 q6)
  have hS108:∀ q5 q6,A [(10,.pointer (some ⟨gS,18,none⟩)),(11,.slice pN N.length cN),(5,pt q5),(6,pt q6),(2,pt gS),(3,pt gD),(4,.int .i64 0)] [⟨q5,26,zL 0 0 0 0⟩,⟨q6,3,[.int .i64 0]⟩,⟨gD,50,dlC ep d (.slice pV V.length cV) (.slice pY Y.length cY) (.slice pP Pr.length cP) sC sS⟩,⟨gS,37,stC p q g h f sec (.slice pN N.length cN)⟩] (bt 9 108) 5:=by
   intro q5 q6;refine (hA _ _ _ _).2 (WA.step [0,4] (.cons ?_ (.cons ?_ .nil)))
   ·refine Tw ?_;exact WA.go hA (hS109 q5 q6)
   ·refine Tw ?_;exact WA.go hA (hS124 q5 q6)
  have hS7:A [(8,pt gS),(9,yo p q g h),(10,.pointer (some ⟨gS,18,none⟩)),(2,pt gS),(3,pt gD),(4,.int .i64 0)] [⟨gD,50,dlC ep d (.slice pV V.length cV) (.slice pY Y.length cY) (.slice pP Pr.length cP) sC sS⟩,⟨gS,37,stC p q g h f sec (.slice pN N.length cN)⟩] (bt 9 7) 6:=by
   refine (hA _ _ _ _).2 (WA.step [3,5,6] (.cons ?_ (.cons ?_ (.cons ?_ .nil))))
   ·refine Tw ?_;exact WA.go hA (hS15)
   ·(refine WO.autoM (k:=?_);intro q5);exact WA.go hA (hS39 q5)
   ·(refine WO.autoM (k:=?_);intro q6);exact WA.go hA (hS71 q6)
  have hS35:∀ q5,A [(8,pt gS),(9,yo p q g h),(5,pt q5),(2,pt gS),(3,pt gD),(4,.int .i64 0)] [⟨q5,26,zL 0 0 0 0⟩,⟨gD,50,dlC ep d (.slice pV V.length cV) (.slice pY Y.length cY) (.slice pP Pr.length cP) sC sS⟩,⟨gS,37,stC p q g h f sec (.slice pN N.length cN)⟩] (bt 9 35) 6:=by
   intro q5;refine (hA _ _ _ _).2 (WA.step [2,6] (.cons ?_ (.cons ?_ .nil)))
   ·refine Tw ?_;exact WA.go hA (hS39 q5)
   ·(refine WO.autoM (k:=?_);intro q6);exact WA.go hA (hS99 q5 q6)
  have hS67:∀ q6,A [(8,pt gS),(9,yo p q g h),(6,pt q6),(2,pt gS),(3,pt gD),(4,.int .i64 0)] [⟨q6,3,[.int .i64 0]⟩,⟨gD,50,dlC ep d (.slice pV V.length cV) (.slice pY Y.length cY) (.slice pP Pr.length cP) sC sS⟩,⟨gS,37,stC p q g h f sec (.slice pN N.length cN)⟩] (bt 9 67) 6:=by
   intro q6;refine (hA _ _ _ _).2 (WA.step [2,5] (.cons ?_ (.cons ?_ .nil)))
   ·refine Tw ?_;exact WA.go hA (hS71 q6)
   ·(refine WO.autoM (k:=?_);intro q5);exact WA.go hA (hS99 q5 q6)
  have hS13:A [(8,pt gS),(10,.pointer (some ⟨gS,18,none⟩)),(11,.slice pN N.length cN),(2,pt gS),(3,pt gD),(4,.int .i64 0)] [⟨gD,50,dlC ep d (.slice pV V.length cV) (.slice pY Y.length cY) (.slice pP Pr.length cP) sC sS⟩,⟨gS,37,stC p q g h f sec (.slice pN N.length cN)⟩] (bt 9 13) 6:=by
   refine (hA _ _ _ _).2 (WA.step [1,4,5,6] (.cons ?_ (.cons ?_ (.cons ?_ (.cons ?_ .nil)))))
   ·refine WO.does (zy (vs:=zL p q g h)) ?_;exact WA.go hA (hS15)
   ·refine Tw ?_;exact WA.go hA (hS29)
   ·(refine WO.autoM (k:=?_);intro q5);exact WA.go hA (hS45 q5)
   ·(refine WO.autoM (k:=?_);intro q6);exact WA.go hA (hS77 q6)
  have hS37:∀ q5,A [(8,pt gS),(10,.pointer (some ⟨gS,18,none⟩)),(5,pt q5),(2,pt gS),(3,pt gD),(4,.int .i64 0)] [⟨q5,26,zL 0 0 0 0⟩,⟨gD,50,dlC ep d (.slice pV V.length cV) (.slice pY Y.length cY) (.slice pP Pr.length cP) sC sS⟩,⟨gS,37,stC p q g h f sec (.slice pN N.length cN)⟩] (bt 9 37) 6:=by
   intro q5;refine (hA _ _ _ _).2 (WA.step [1,3,6] (.cons ?_ (.cons ?_ (.cons ?_ .nil))))
   ·refine WO.does (zy (vs:=zL p q g h)) ?_;exact WA.go hA (hS39 q5)
   ·refine Tw ?_;exact WA.go hA (hS45 q5)
   ·(refine WO.autoM (k:=?_);intro q6);exact WA.go hA (hS101 q5 q6)
  have hS69:∀ q6,A [(8,pt gS),(10,.pointer (some ⟨gS,18,none⟩)),(6,pt q6),(2,pt gS),(3,pt gD),(4,.int .i64 0)] [⟨q6,3,[.int .i64 0]⟩,⟨gD,50,dlC ep d (.slice pV V.length cV) (.slice pY Y.length cY) (.slice pP Pr.length cP) sC sS⟩,⟨gS,37,stC p q g h f sec (.slice pN N.length cN)⟩] (bt 9 69) 6:=by
   intro q6;refine (hA _ _ _ _).2 (WA.step [1,3,5] (.cons ?_ (.cons ?_ (.cons ?_ .nil))))
   ·refine WO.does (zy (vs:=zL p q g h)) ?_;exact WA.go hA (hS71 q6)
   ·refine Tw ?_;exact WA.go hA (hS77 q6)
   ·(refine WO.autoM (k:=?_);intro q5);exact WA.go hA (hS101 q5 q6)
  have hS97:∀ q5 q6,A [(8,pt gS),(5,pt q5),(6,pt q6),(2,pt gS),(3,pt gD),(4,.int .i64 0)] [⟨q5,26,zL 0 0 0 0⟩,⟨q6,3,[.int .i64 0]⟩,⟨gD,50,dlC ep d (.slice pV V.length cV) (.slice pY Y.length cY) (.slice pP Pr.length cP) sC sS⟩,⟨gS,37,stC p q g h f sec (.slice pN N.length cN)⟩] (bt 9 97) 6:=by
   intro q5 q6;refine (hA _ _ _ _).2 (WA.step [1,2] (.cons ?_ (.cons ?_ .nil)))
   ·refine WO.does (zy (vs:=zL p q g h)) ?_;exact WA.go hA (hS99 q5 q6)
   ·refine Tw ?_;exact WA.go hA (hS101 q5 q6)
  have hS28:A [(10,.pointer (some ⟨gS,18,none⟩)),(11,.slice pN N.length cN),(12,.int .i64 (N.length:Int)),(2,pt gS),(3,pt gD),(4,.int .i64 0)] [⟨gD,50,dlC ep d (.slice pV V.length cV) (.slice pY Y.length cY) (.slice pP Pr.length cP) sC sS⟩,⟨gS,37,stC p q g h f sec (.slice pN N.length cN)⟩] (bt 9 28) 6:=by
   refine (hA _ _ _ _).2 (WA.step [0,5,6] (.cons ?_ (.cons ?_ (.cons ?_ .nil))))
   ·refine Tw ?_;exact WA.go hA (hS29)
   ·(refine WO.autoM (k:=?_);intro q5);exact WA.go hA (hS60 q5)
   ·(refine WO.autoM (k:=?_);intro q6);exact WA.go hA (hS92 q6)
  have hS44:∀ q5,A [(10,.pointer (some ⟨gS,18,none⟩)),(11,.slice pN N.length cN),(5,pt q5),(2,pt gS),(3,pt gD),(4,.int .i64 0)] [⟨q5,26,zL 0 0 0 0⟩,⟨gD,50,dlC ep d (.slice pV V.length cV) (.slice pY Y.length cY) (.slice pP Pr.length cP) sC sS⟩,⟨gS,37,stC p q g h f sec (.slice pN N.length cN)⟩] (bt 9 44) 6:=by
   intro q5;refine (hA _ _ _ _).2 (WA.step [0,4,6] (.cons ?_ (.cons ?_ (.cons ?_ .nil))))
   ·refine Tw ?_;exact WA.go hA (hS45 q5)
   ·refine Tw ?_;exact WA.go hA (hS60 q5)
   ·(refine WO.autoM (k:=?_);intro q6);exact WA.go hA (hS108 q5 q6)
  have hS76:∀ q6,A [(10,.pointer (some ⟨gS,18,none⟩)),(11,.slice pN N.length cN),(6,pt q6),(2,pt gS),(3,pt gD),(4,.int .i64 0)] [⟨q6,3,[.int .i64 0]⟩,⟨gD,50,dlC ep d (.slice pV V.length cV) (.slice pY Y.length cY) (.slice pP Pr.length cP) sC sS⟩,⟨gS,37,stC p q g h f sec (.slice pN N.length cN)⟩] (bt 9 76) 6:=by
   intro q6;refine (hA _ _ _ _).2 (WA.step [0,4,5] (.cons ?_ (.cons ?_ (.cons ?_ .nil))))
   ·refine Tw ?_;exact WA.go hA (hS77 q6)
   ·refine Tw ?_;exact WA.go hA (hS92 q6)
   ·(refine WO.autoM (k:=?_);intro q5);exact WA.go hA (hS108 q5 q6)
  have hS100:∀ q5 q6,A [(10,.pointer (some ⟨gS,18,none⟩)),(5,pt q5),(6,pt q6),(2,pt gS),(3,pt gD),(4,.int .i64 0)] [⟨q5,26,zL 0 0 0 0⟩,⟨q6,3,[.int .i64 0]⟩,⟨gD,50,dlC ep d (.slice pV V.length cV) (.slice pY Y.length cY) (.slice pP Pr.length cP) sC sS⟩,⟨gS,37,stC p q g h f sec (.slice pN N.length cN)⟩] (bt 9 100) 6:=by
   intro q5 q6;refine (hA _ _ _ _).2 (WA.step [0,3] (.cons ?_ (.cons ?_ .nil)))
   ·refine Tw ?_;exact WA.go hA (hS101 q5 q6)
   ·refine Tw ?_;exact WA.go hA (hS108 q5 q6)
  have hS3:A [(8,pt gS),(9,yo p q g h),(2,pt gS),(3,pt gD),(4,.int .i64 0)] [⟨gD,50,dlC ep d (.slice pV V.length cV) (.slice pY Y.length cY) (.slice pP Pr.length cP) sC sS⟩,⟨gS,37,stC p q g h f sec (.slice pN N.length cN)⟩] (bt 9 3) 7:=by
   refine (hA _ _ _ _).2 (WA.step [2,5,6] (.cons ?_ (.cons ?_ (.cons ?_ .nil))))
   ·refine Tw ?_;exact WA.go hA (hS7)
   ·(refine WO.autoM (k:=?_);intro q5);exact WA.go hA (hS35 q5)
   ·(refine WO.autoM (k:=?_);intro q6);exact WA.go hA (hS67 q6)
  have hS5:A [(8,pt gS),(10,.pointer (some ⟨gS,18,none⟩)),(2,pt gS),(3,pt gD),(4,.int .i64 0)] [⟨gD,50,dlC ep d (.slice pV V.length cV) (.slice pY Y.length cY) (.slice pP Pr.length cP) sC sS⟩,⟨gS,37,stC p q g h f sec (.slice pN N.length cN)⟩] (bt 9 5) 7:=by
   refine (hA _ _ _ _).2 (WA.step [1,3,5,6] (.cons ?_ (.cons ?_ (.cons ?_ (.cons ?_ .nil)))))
   ·refine WO.does (zy (vs:=zL p q g h)) ?_;exact WA.go hA (hS7)
   ·refine Tw ?_;exact WA.go hA (hS13)
   ·(refine WO.autoM (k:=?_);intro q5);exact WA.go hA (hS37 q5)
   ·(refine WO.autoM (k:=?_);intro q6);exact WA.go hA (hS69 q6)
  have hS33:∀ q5,A [(8,pt gS),(5,pt q5),(2,pt gS),(3,pt gD),(4,.int .i64 0)] [⟨q5,26,zL 0 0 0 0⟩,⟨gD,50,dlC ep d (.slice pV V.length cV) (.slice pY Y.length cY) (.slice pP Pr.length cP) sC sS⟩,⟨gS,37,stC p q g h f sec (.slice pN N.length cN)⟩] (bt 9 33) 7:=by
   intro q5;refine (hA _ _ _ _).2 (WA.step [1,2,6] (.cons ?_ (.cons ?_ (.cons ?_ .nil))))
   ·refine WO.does (zy (vs:=zL p q g h)) ?_;exact WA.go hA (hS35 q5)
   ·refine Tw ?_;exact WA.go hA (hS37 q5)
   ·(refine WO.autoM (k:=?_);intro q6);exact WA.go hA (hS97 q5 q6)
  have hS65:∀ q6,A [(8,pt gS),(6,pt q6),(2,pt gS),(3,pt gD),(4,.int .i64 0)] [⟨q6,3,[.int .i64 0]⟩,⟨gD,50,dlC ep d (.slice pV V.length cV) (.slice pY Y.length cY) (.slice pP Pr.length cP) sC sS⟩,⟨gS,37,stC p q g h f sec (.slice pN N.length cN)⟩] (bt 9 65) 7:=by
   intro q6;refine (hA _ _ _ _).2 (WA.step [1,2,5] (.cons ?_ (.cons ?_ (.cons ?_ .nil))))
   ·refine WO.does (zy (vs:=zL p q g h)) ?_;exact WA.go hA (hS67 q6)
   ·refine Tw ?_;exact WA.go hA (hS69 q6)
   ·(refine WO.autoM (k:=?_);intro q5);exact WA.go hA (hS97 q5 q6)
  have hS12:A [(10,.pointer (some ⟨gS,18,none⟩)),(11,.slice pN N.length cN),(2,pt gS),(3,pt gD),(4,.int .i64 0)] [⟨gD,50,dlC ep d (.slice pV V.length cV) (.slice pY Y.length cY) (.slice pP Pr.length cP) sC sS⟩,⟨gS,37,stC p q g h f sec (.slice pN N.length cN)⟩] (bt 9 12) 7:=by
   refine (hA _ _ _ _).2 (WA.step [0,4,5,6] (.cons ?_ (.cons ?_ (.cons ?_ (.cons ?_ .nil)))))
   ·refine Tw ?_;exact WA.go hA (hS13)
   ·refine Tw ?_;exact WA.go hA (hS28)
   ·(refine WO.autoM (k:=?_);intro q5);exact WA.go hA (hS44 q5)
   ·(refine WO.autoM (k:=?_);intro q6);exact WA.go hA (hS76 q6)
  have hS36:∀ q5,A [(10,.pointer (some ⟨gS,18,none⟩)),(5,pt q5),(2,pt gS),(3,pt gD),(4,.int .i64 0)] [⟨q5,26,zL 0 0 0 0⟩,⟨gD,50,dlC ep d (.slice pV V.length cV) (.slice pY Y.length cY) (.slice pP Pr.length cP) sC sS⟩,⟨gS,37,stC p q g h f sec (.slice pN N.length cN)⟩] (bt 9 36) 7:=by
   intro q5;refine (hA _ _ _ _).2 (WA.step [0,3,6] (.cons ?_ (.cons ?_ (.cons ?_ .nil))))
   ·refine Tw ?_;exact WA.go hA (hS37 q5)
   ·refine Tw ?_;exact WA.go hA (hS44 q5)
   ·(refine WO.autoM (k:=?_);intro q6);exact WA.go hA (hS100 q5 q6)
  have hS68:∀ q6,A [(10,.pointer (some ⟨gS,18,none⟩)),(6,pt q6),(2,pt gS),(3,pt gD),(4,.int .i64 0)] [⟨q6,3,[.int .i64 0]⟩,⟨gD,50,dlC ep d (.slice pV V.length cV) (.slice pY Y.length cY) (.slice pP Pr.length cP) sC sS⟩,⟨gS,37,stC p q g h f sec (.slice pN N.length cN)⟩] (bt 9 68) 7:=by
   intro q6;refine (hA _ _ _ _).2 (WA.step [0,3,5] (.cons ?_ (.cons ?_ (.cons ?_ .nil))))
   ·refine Tw ?_;exact WA.go hA (hS69 q6)
   ·refine Tw ?_;exact WA.go hA (hS76 q6)
   ·(refine WO.autoM (k:=?_);intro q5);exact WA.go hA (hS100 q5 q6)
  have hS96:∀ q5 q6,A [(5,pt q5),(6,pt q6),(2,pt gS),(3,pt gD),(4,.int .i64 0)] [⟨q5,26,zL 0 0 0 0⟩,⟨q6,3,[.int .i64 0]⟩,⟨gD,50,dlC ep d (.slice pV V.length cV) (.slice pY Y.length cY) (.slice pP Pr.length cP) sC sS⟩,⟨gS,37,stC p q g h f sec (.slice pN N.length cN)⟩] (bt 9 96) 7:=by
   intro q5 q6;refine (hA _ _ _ _).2 (WA.step [0,2] (.cons ?_ (.cons ?_ .nil)))
   ·refine Tw ?_;exact WA.go hA (hS97 q5 q6)
   ·refine Tw ?_;exact WA.go hA (hS100 q5 q6)
  have hS1:A [(8,pt gS),(2,pt gS),(3,pt gD),(4,.int .i64 0)] [⟨gD,50,dlC ep d (.slice pV V.length cV) (.slice pY Y.length cY) (.slice pP Pr.length cP) sC sS⟩,⟨gS,37,stC p q g h f sec (.slice pN N.length cN)⟩] (bt 9 1) 8:=by
   refine (hA _ _ _ _).2 (WA.step [1,2,5,6] (.cons ?_ (.cons ?_ (.cons ?_ (.cons ?_ .nil)))))
   ·refine WO.does (zy (vs:=zL p q g h)) ?_;exact WA.go hA (hS3)
   ·refine Tw ?_;exact WA.go hA (hS5)
   ·(refine WO.autoM (k:=?_);intro q5);exact WA.go hA (hS33 q5)
   ·(refine WO.autoM (k:=?_);intro q6);exact WA.go hA (hS65 q6)
  have hS4:A [(10,.pointer (some ⟨gS,18,none⟩)),(2,pt gS),(3,pt gD),(4,.int .i64 0)] [⟨gD,50,dlC ep d (.slice pV V.length cV) (.slice pY Y.length cY) (.slice pP Pr.length cP) sC sS⟩,⟨gS,37,stC p q g h f sec (.slice pN N.length cN)⟩] (bt 9 4) 8:=by
   refine (hA _ _ _ _).2 (WA.step [0,3,5,6] (.cons ?_ (.cons ?_ (.cons ?_ (.cons ?_ .nil)))))
   ·refine Tw ?_;exact WA.go hA (hS5)
   ·refine Tw ?_;exact WA.go hA (hS12)
   ·(refine WO.autoM (k:=?_);intro q5);exact WA.go hA (hS36 q5)
   ·(refine WO.autoM (k:=?_);intro q6);exact WA.go hA (hS68 q6)
  have hS32:∀ q5,A [(5,pt q5),(2,pt gS),(3,pt gD),(4,.int .i64 0)] [⟨q5,26,zL 0 0 0 0⟩,⟨gD,50,dlC ep d (.slice pV V.length cV) (.slice pY Y.length cY) (.slice pP Pr.length cP) sC sS⟩,⟨gS,37,stC p q g h f sec (.slice pN N.length cN)⟩] (bt 9 32) 8:=by
   intro q5;refine (hA _ _ _ _).2 (WA.step [0,2,6] (.cons ?_ (.cons ?_ (.cons ?_ .nil))))
   ·refine Tw ?_;exact WA.go hA (hS33 q5)
   ·refine Tw ?_;exact WA.go hA (hS36 q5)
   ·(refine WO.autoM (k:=?_);intro q6);exact WA.go hA (hS96 q5 q6)
  have hS64:∀ q6,A [(6,pt q6),(2,pt gS),(3,pt gD),(4,.int .i64 0)] [⟨q6,3,[.int .i64 0]⟩,⟨gD,50,dlC ep d (.slice pV V.length cV) (.slice pY Y.length cY) (.slice pP Pr.length cP) sC sS⟩,⟨gS,37,stC p q g h f sec (.slice pN N.length cN)⟩] (bt 9 64) 8:=by
   intro q6;refine (hA _ _ _ _).2 (WA.step [0,2,5] (.cons ?_ (.cons ?_ (.cons ?_ .nil))))
   ·refine Tw ?_;exact WA.go hA (hS65 q6)
   ·refine Tw ?_;exact WA.go hA (hS68 q6)
   ·(refine WO.autoM (k:=?_);intro q5);exact WA.go hA (hS96 q5 q6)
  have hS0:A [(2,pt gS),(3,pt gD),(4,.int .i64 0)] [⟨gD,50,dlC ep d (.slice pV V.length cV) (.slice pY Y.length cY) (.slice pP Pr.length cP) sC sS⟩,⟨gS,37,stC p q g h f sec (.slice pN N.length cN)⟩] (bt 9 0) 9:=by
   refine (hA _ _ _ _).2 (WA.step [0,2,5,6] (.cons ?_ (.cons ?_ (.cons ?_ (.cons ?_ .nil)))))
   ·refine Tw ?_;exact WA.go hA (hS1)
   ·refine Tw ?_;exact WA.go hA (hS4)
   ·(refine WO.autoM (k:=?_);intro q5);exact WA.go hA (hS32 q5)
   ·(refine WO.autoM (k:=?_);intro q6);exact WA.go hA (hS64 q6)
  exact (hA _ _ _ _).2 (WA.less _ _ ((hA _ _ _ _).1 hS0))
 intro q5 q6;refine (hA _ _ _ _).2 (WA.done ?_)
 repeat (first|refine WO.does (zW rfl rfl) ?_|refine Ta ?_|(refine Tm ?_;intro _)|refine Tc ?_|exact Tz)
 rename_i gi
 repeat (first|refine WO.does (zW rfl rfl) ?_|refine Ta ?_|(refine Tm ?_;intro _)|refine Tc ?_|exact Tz)
 refine WO.makes (ze (cs:=[fV (57,[pt gS]),fV (59,[pt gS,pt gD,pt q6,pt gi]),fV (60,[pt q5,pt gD,pt gS]),fV (62,[pt gD,pt q5,pt gS]),fV (64,[pt q5,pt gS,pt gD])]) rfl (by decide) rfl) ?_;intro gR;refine WO.calls (fs:=[]) (cs:=[]) (acA (R:=CkR p q g h f sec pN pV pY pP cN cV cY cP N ep d V Y Pr sC sS gS gD q5 q6 gi) (fun w w' k hm=>CkR.mod (k:=k) (hm:=hm)) _ r gR 5 (by simp) (hAsk gS gD q5 q6 gi)) rfl rfl rfl (fun w1 hm=>⟨Hs.sg hm,⟨Hs.sg hm,Hs.sg hm,Hs.sg hm,Hs.sg hm,Hs.sg hm,hN.mod hm.mod,hV.mod hm.mod,hY.mod hm.mod,hP.mod hm.mod⟩⟩) (fun v N1 hv=>?_);cases r with
 | none =>
  obtain⟨rfl,rfl⟩:=hv
  try dsimp only[List.cons_append,List.nil_append]
  repeat (first|refine Ta ?_|(refine Tm ?_;intro _)|refine WO.acall (hc:=ab9) (k:=?_)|refine Tc ?_|exact Tz)
  done
 | some e =>
  obtain⟨gE,rfl,rfl⟩:=hv
  try dsimp only[List.cons_append,List.nil_append]
  repeat (first|refine Ta ?_|(refine Tm ?_;intro _)|refine WO.acallR (hc:=abm gE e) (hR:=fun w1 hm=>⟨hH.mod hm.mod (by simp),Hs.sg hm⟩) (k:=?_)|refine Tc ?_|exact Tz)
  done
end
end Sx
end
section
open Go Go.RowKit Go.BigFrame
namespace Sx
section
variable (p q g h:Nat) (f sec:Int) (pN pV pY pP:Option Addr) (cN cV cY cP:Nat) (N:List (Nat × Nat)) (ep d:Nat) (V Y:List Nat) (Pr:List (Nat × Nat)) (sC sS:Nat)
theorem fm {p q g h:Nat} {f sec:Int} {N:List (Nat × Nat)} {c:Nat} (hs:uc p q g h f sec N=true) (hc:f+sec=(c:Int)):c≤N.length:=by
 unfold uc at hs;simp only[Bool.and_eq_true,decide_eq_true_eq] at hs;omega
theorem aci (hp:p<zd) (hq:q<zd) (hg:g<zd) (hh:h<zd) (hN:yz N) (hNl:N.length≤100)
  (hf1 : -9223372036854775808≤f) (hf2:f≤9223372036854775807) (hs1 : -9223372036854775808≤sec) (hs2:sec≤9223372036854775807)
  (hd:d<256) (hV:∀ a∈V,a<zd) (hY:∀ a∈Y,a<zd) (hPr:yz Pr) (hVl:V.length≤100) (hYl:Y.length≤100) (hPl:Pr.length≤100) (hsC:sC<zd) (hsS:sS<zd) (gS gD gg gn gi:Nat) :
  aaI (CkR p q g h f sec pN pV pY pP cN cV cY cP N ep d V Y Pr sC sS gS gD gg gn gi)
   [(57,[pt gS]),(59,[pt gS,pt gD,pt gn,pt gi]),(60,[pt gg,pt gD,pt gS]),(62,[pt gD,pt gg,pt gS]),(64,[pt gg,pt gS,pt gD])] (ckE p q g h f sec N ep d V Y Pr sC sS):=by
 have h2:=aeo p q g h f sec pN pV pY pP cN cV cY cP N ep d V Y Pr sC sS gS gD gg gn gi hp hq hg hh hN (by omega) hf1 hf2 hs1 hs2;unfold ckE;cases e0:uc p q g h f sec N with
 | false =>
  rw[e0] at h2;rw[if_neg (by decide)] at h2 ⊢;exact .hit inferInstance h2
 | true =>
 rw[e0,if_pos rfl] at h2;rw[if_pos rfl];refine .go inferInstance h2 ?_;obtain⟨hn1,hn7,hnq,hf0,hs1',hfs5,hgm,hhm⟩:=vK e0;have h3:=aeq p q g h f sec pN pV pY pP cN cV cY cP N ep d V Y Pr sC sS gS gD gg gn gi hp hq hd hNl hn1 (by omega) (by omega) (by omega) hV hY;cases e1:shB p q N d V Y Pr with
 | false =>
  rw[e1] at h3;rw[if_neg (by decide)] at h3 ⊢;exact .hit inferInstance h3
 | true =>
 rw[e1,if_pos rfl] at h3;rw[if_pos rfl];refine .go inferInstance h3 ?_;unfold shB at e1;simp only[Bool.and_eq_true,decide_eq_true_eq] at e1;obtain⟨⟨⟨⟨⟨n1,n2⟩,n3⟩,n4⟩,n5⟩,n6⟩:=e1;obtain⟨hd1,hdn⟩:=sK n1;have hZ:acM p V:=⟨hV,fun z hz=>vm (List.all_eq_true.1 n5 z hz)⟩;obtain⟨c,hc⟩ : ∃ c:Nat,f+sec=(c:Int):=⟨(f+sec).toNat,by omega⟩;have hcN:=fm e0 hc;have h4:=aeG p q g h f sec pN pV pY pP cN cV cY cP N ep d V Y Pr sC sS gS gD gg gn gi N.length c rfl hc n2 hn1 hn7 (by omega) hcN (by omega) hq hp (yT hgm).1 hZ;rw[show (f+sec).toNat=c by omega];cases e2:duB p q N.length c V with
 | false =>
  rw[e2] at h4;rw[if_neg (by decide)] at h4 ⊢;exact .hit inferInstance h4
 | true =>
 rw[e2,if_pos rfl] at h4;rw[if_pos rfl];refine .go inferInstance h4 ?_;have h5:=aev p q g h f sec pN pV pY pP cN cV cY cP N ep d V Y Pr sC sS gS gD gg gn gi (by omega) (by omega) (by omega) (by omega) hN hV hY hPr hp hq hg;cases e3:aao p q g N V Y Pr with
 | false =>
  rw[e3] at h5;rw[if_neg (by decide)] at h5 ⊢;exact .hit inferInstance h5
 | true =>
 rw[e3,if_pos rfl] at h5;rw[if_pos rfl];refine .go inferInstance h5 ?_;obtain⟨k,hk⟩ : ∃ z,N[d - 1]?=some z:=⟨_,List.getElem?_eq_getElem (by omega)⟩;have hkm:=hN _ (List.mem_of_getElem? hk);have h6:=aeK p q g h f sec pN pV pY pP cN cV cY cP N ep d V Y Pr sC sS gS gD gg gn gi k hk hd1 hd (by rintro rfl;simp at n2;omega) (by rintro rfl;simp at n3;omega) (by rintro rfl;simp at n4;omega) (by omega) (by omega) (by omega) hkm.1 hkm.2 hp hq hg hsC hsS hgm (vh _ _) (pM _ _);rw[hk,show (some k).getD (0,0)=k from rfl];cases e4:nj p q g k.1 sC sS (yX ep d V Y Pr) with
 | false =>
  rw[e4] at h6;rw[if_neg (by decide)] at h6 ⊢;exact .hit inferInstance h6
 | true =>
 rw[e4,if_pos rfl] at h6;rw[if_pos rfl];exact .go inferInstance h6 .nil
end
section
variable (p q g h:Nat) (f sec:Int) (pN pV pY pP:Option Addr) (cN cV cY cP:Nat) (N:List (Nat × Nat)) (ep d:Nat) (V Y:List Nat) (Pr:List (Nat × Nat)) (sC sS:Nat)
theorem qx (hp:p<zd) (hq:q<zd) (hg:g<zd) (hh:h<zd) (hN:yz N) (hNl:N.length≤100)
  (hf1 : -9223372036854775808≤f) (hf2:f≤9223372036854775807) (hs1 : -9223372036854775808≤sec) (hs2:sec≤9223372036854775807)
  (hd:d<256) (hV:∀ a∈V,a<zd) (hY:∀ a∈Y,a<zd) (hPr:yz Pr) (hVl:V.length≤100) (hYl:Y.length≤100) (hPl:Pr.length≤100) (hsC:sC<zd) (hsS:sS<zd) :
  Fn Tryz.prog 26 [stV p q g h f sec (.slice pN N.length cN),dlV ep d (.slice pV V.length cV) (.slice pY Y.length cY) (.slice pP Pr.length cP) sC sS]
   (fun w=>(RdF yw (.slice pN N.length cN) N w∧RdF zc (.slice pV V.length cV) V w∧RdF zc (.slice pY Y.length cY) Y w∧RdF pfC (.slice pP Pr.length cP) Pr w)∧oy w) (Is (.int .i64 ((ckE p q g h f sec N ep d V Y Pr sC sS).getD 0))) :=
 fU p q g h f sec pN pV pY pP cN cV cY cP N ep d V Y Pr sC sS _ (fun gS gD gg gn gi=>aci p q g h f sec pN pV pY pP cN cV cY cP N ep d V Y Pr sC sS hp hq hg hh hN hNl hf1 hf2 hs1 hs2 hd hV hY hPr hVl hYl hPl hsC hsS gS gD gg gn gi)
end
end Sx
end
end Go.Proofs.YteibfbjpkjkejaaGreatDoor
