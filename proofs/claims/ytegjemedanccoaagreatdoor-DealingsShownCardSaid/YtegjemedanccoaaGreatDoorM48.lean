/- Part 48 of the proof. -/
import Derived.Test.YtegjemedanccoaaGreatDoorM45
set_option linter.unusedSimpArgs false
set_option linter.unusedVariables false
set_option maxHeartbeats 8000000
namespace Go.Proofs.YtegjemedanccoaaGreatDoor
section
open Go Go.RowKit Go.BigFrame
namespace Sx
attribute [local irreducible] DQ DQS WC WI WO WX wd
section
variable (p q g h:Nat) (f sec:Int) (pN pV pY pP:Option Addr) (cN cV cY cP:Nat) (N:List (Nat × Nat)) (ep d:Nat) (V Y:List Nat) (Pr:List (Nat × Nat)) (sC sS:Nat)
theorem gr (r:Option Int) (hAsk:∀ gS gD gg gn gi,al (CkR p q g h f sec pN pV pY pP cN cV cY cP N ep d V Y Pr sC sS gS gD gg gn gi)
   [(46,[pt gS]),(48,[pt gS,pt gD,pt gn,pt gi]),(49,[pt gg,pt gD,pt gS]),(51,[pt gD,pt gg,pt gS]),(53,[pt gg,pt gS,pt gD])] r) :
  Fn Tryz.prog 15 [stV p q g h f sec (.slice pN N.length cN),dlV ep d (.slice pV V.length cV) (.slice pY Y.length cY) (.slice pP Pr.length cP) sC sS]
   (fun w=>(RdF zI (.slice pN N.length cN) N w∧RdF zb (.slice pV V.length cV) V w∧RdF zb (.slice pY Y.length cY) Y w∧RdF pfC (.slice pP Pr.length cP) Pr w)∧tI w) (Is (.int .i64 (r.getD 0))):=by
 refine Fn.enter Tryz.func15 rfl rfl rfl ?_;intro w hw;obtain⟨⟨hN,hV,hY,hP⟩,hH⟩:=hw
 repeat (first|refine Tw ?_|(refine Tm ?_;intro _)|exact Tz)
 rename_i gS gD;refine WC.allA (fun A hA=>?_)
 suffices hS511:∀ q5 q6,A [(8,pt gS),(9,yh p q g h),(10,.pointer (some ⟨gS,18,none⟩)),(11,.slice pN N.length cN),(12,.int .i64 (N.length:Int)),(5,pt q5),(6,pt q6),(2,pt gS),(3,pt gD),(4,.int .i64 0)] [⟨q5,26,zJ p q g h⟩,⟨q6,3,[.int .i64 (N.length:Int)]⟩,⟨gD,44,dlC ep d (.slice pV V.length cV) (.slice pY Y.length cY) (.slice pP Pr.length cP) sC sS⟩,⟨gS,29,stC p q g h f sec (.slice pN N.length cN)⟩] (bt 9 511) 0 by
  have hS255:∀ q5 q6,A [(8,pt gS),(9,yh p q g h),(10,.pointer (some ⟨gS,18,none⟩)),(11,.slice pN N.length cN),(12,.int .i64 (N.length:Int)),(5,pt q5),(6,pt q6),(2,pt gS),(3,pt gD),(4,.int .i64 0)] [⟨q5,26,zJ p q g h⟩,⟨q6,3,[.int .i64 0]⟩,⟨gD,44,dlC ep d (.slice pV V.length cV) (.slice pY Y.length cY) (.slice pP Pr.length cP) sC sS⟩,⟨gS,29,stC p q g h f sec (.slice pN N.length cN)⟩] (bt 9 255) 1:=by
   intro q5 q6;refine (hA _ _ _ _).2 (WA.step [8] (.cons ?_ .nil))
   ·refine Tw ?_;exact WA.go hA (hS511 q5 q6)
  have hS127:∀ q5 q6,A [(8,pt gS),(9,yh p q g h),(10,.pointer (some ⟨gS,18,none⟩)),(11,.slice pN N.length cN),(12,.int .i64 (N.length:Int)),(5,pt q5),(6,pt q6),(2,pt gS),(3,pt gD),(4,.int .i64 0)] [⟨q5,26,zJ 0 0 0 0⟩,⟨q6,3,[.int .i64 0]⟩,⟨gD,44,dlC ep d (.slice pV V.length cV) (.slice pY Y.length cY) (.slice pP Pr.length cP) sC sS⟩,⟨gS,29,stC p q g h f sec (.slice pN N.length cN)⟩] (bt 9 127) 2:=by
   intro q5 q6;refine (hA _ _ _ _).2 (WA.step [7] (.cons ?_ .nil))
   ·refine Tw ?_;exact WA.go hA (hS255 q5 q6)
  have hS239:∀ q5 q6,A [(8,pt gS),(9,yh p q g h),(10,.pointer (some ⟨gS,18,none⟩)),(11,.slice pN N.length cN),(5,pt q5),(6,pt q6),(2,pt gS),(3,pt gD),(4,.int .i64 0)] [⟨q5,26,zJ p q g h⟩,⟨q6,3,[.int .i64 0]⟩,⟨gD,44,dlC ep d (.slice pV V.length cV) (.slice pY Y.length cY) (.slice pP Pr.length cP) sC sS⟩,⟨gS,29,stC p q g h f sec (.slice pN N.length cN)⟩] (bt 9 239) 2:=by
   intro q5 q6;refine (hA _ _ _ _).2 (WA.step [4] (.cons ?_ .nil))
   ·refine Tw ?_;exact WA.go hA (hS255 q5 q6)
  have hS63:∀ q5,A [(8,pt gS),(9,yh p q g h),(10,.pointer (some ⟨gS,18,none⟩)),(11,.slice pN N.length cN),(12,.int .i64 (N.length:Int)),(5,pt q5),(2,pt gS),(3,pt gD),(4,.int .i64 0)] [⟨q5,26,zJ 0 0 0 0⟩,⟨gD,44,dlC ep d (.slice pV V.length cV) (.slice pY Y.length cY) (.slice pP Pr.length cP) sC sS⟩,⟨gS,29,stC p q g h f sec (.slice pN N.length cN)⟩] (bt 9 63) 3:=by
   intro q5;refine (hA _ _ _ _).2 (WA.step [6] (.cons ?_ .nil))
   ·(refine WO.autoM (k:=?_);intro q6);exact WA.go hA (hS127 q5 q6)
  have hS95:∀ q6,A [(8,pt gS),(9,yh p q g h),(10,.pointer (some ⟨gS,18,none⟩)),(11,.slice pN N.length cN),(12,.int .i64 (N.length:Int)),(6,pt q6),(2,pt gS),(3,pt gD),(4,.int .i64 0)] [⟨q6,3,[.int .i64 0]⟩,⟨gD,44,dlC ep d (.slice pV V.length cV) (.slice pY Y.length cY) (.slice pP Pr.length cP) sC sS⟩,⟨gS,29,stC p q g h f sec (.slice pN N.length cN)⟩] (bt 9 95) 3:=by
   intro q6;refine (hA _ _ _ _).2 (WA.step [5] (.cons ?_ .nil))
   ·(refine WO.autoM (k:=?_);intro q5);exact WA.go hA (hS127 q5 q6)
  have hS111:∀ q5 q6,A [(8,pt gS),(9,yh p q g h),(10,.pointer (some ⟨gS,18,none⟩)),(11,.slice pN N.length cN),(5,pt q5),(6,pt q6),(2,pt gS),(3,pt gD),(4,.int .i64 0)] [⟨q5,26,zJ 0 0 0 0⟩,⟨q6,3,[.int .i64 0]⟩,⟨gD,44,dlC ep d (.slice pV V.length cV) (.slice pY Y.length cY) (.slice pP Pr.length cP) sC sS⟩,⟨gS,29,stC p q g h f sec (.slice pN N.length cN)⟩] (bt 9 111) 3:=by
   intro q5 q6;refine (hA _ _ _ _).2 (WA.step [4,7] (.cons ?_ (.cons ?_ .nil)))
   ·refine Tw ?_;exact WA.go hA (hS127 q5 q6)
   ·refine Tw ?_;exact WA.go hA (hS239 q5 q6)
  have hS231:∀ q5 q6,A [(8,pt gS),(9,yh p q g h),(10,.pointer (some ⟨gS,18,none⟩)),(5,pt q5),(6,pt q6),(2,pt gS),(3,pt gD),(4,.int .i64 0)] [⟨q5,26,zJ p q g h⟩,⟨q6,3,[.int .i64 0]⟩,⟨gD,44,dlC ep d (.slice pV V.length cV) (.slice pY Y.length cY) (.slice pP Pr.length cP) sC sS⟩,⟨gS,29,stC p q g h f sec (.slice pN N.length cN)⟩] (bt 9 231) 3:=by
   intro q5 q6;refine (hA _ _ _ _).2 (WA.step [3] (.cons ?_ .nil))
   ·refine Tw ?_;exact WA.go hA (hS239 q5 q6)
  have hS125:∀ q5 q6,A [(8,pt gS),(10,.pointer (some ⟨gS,18,none⟩)),(11,.slice pN N.length cN),(12,.int .i64 (N.length:Int)),(5,pt q5),(6,pt q6),(2,pt gS),(3,pt gD),(4,.int .i64 0)] [⟨q5,26,zJ 0 0 0 0⟩,⟨q6,3,[.int .i64 0]⟩,⟨gD,44,dlC ep d (.slice pV V.length cV) (.slice pY Y.length cY) (.slice pP Pr.length cP) sC sS⟩,⟨gS,29,stC p q g h f sec (.slice pN N.length cN)⟩] (bt 9 125) 3:=by
   intro q5 q6;refine (hA _ _ _ _).2 (WA.step [1] (.cons ?_ .nil))
   ·refine WO.does (zy (vs:=zJ p q g h)) ?_;exact WA.go hA (hS127 q5 q6)
  have hS31:A [(8,pt gS),(9,yh p q g h),(10,.pointer (some ⟨gS,18,none⟩)),(11,.slice pN N.length cN),(12,.int .i64 (N.length:Int)),(2,pt gS),(3,pt gD),(4,.int .i64 0)] [⟨gD,44,dlC ep d (.slice pV V.length cV) (.slice pY Y.length cY) (.slice pP Pr.length cP) sC sS⟩,⟨gS,29,stC p q g h f sec (.slice pN N.length cN)⟩] (bt 9 31) 4:=by
   refine (hA _ _ _ _).2 (WA.step [5,6] (.cons ?_ (.cons ?_ .nil)))
   ·(refine WO.autoM (k:=?_);intro q5);exact WA.go hA (hS63 q5)
   ·(refine WO.autoM (k:=?_);intro q6);exact WA.go hA (hS95 q6)
  have hS47:∀ q5,A [(8,pt gS),(9,yh p q g h),(10,.pointer (some ⟨gS,18,none⟩)),(11,.slice pN N.length cN),(5,pt q5),(2,pt gS),(3,pt gD),(4,.int .i64 0)] [⟨q5,26,zJ 0 0 0 0⟩,⟨gD,44,dlC ep d (.slice pV V.length cV) (.slice pY Y.length cY) (.slice pP Pr.length cP) sC sS⟩,⟨gS,29,stC p q g h f sec (.slice pN N.length cN)⟩] (bt 9 47) 4:=by
   intro q5;refine (hA _ _ _ _).2 (WA.step [4,6] (.cons ?_ (.cons ?_ .nil)))
   ·refine Tw ?_;exact WA.go hA (hS63 q5)
   ·(refine WO.autoM (k:=?_);intro q6);exact WA.go hA (hS111 q5 q6)
  have hS79:∀ q6,A [(8,pt gS),(9,yh p q g h),(10,.pointer (some ⟨gS,18,none⟩)),(11,.slice pN N.length cN),(6,pt q6),(2,pt gS),(3,pt gD),(4,.int .i64 0)] [⟨q6,3,[.int .i64 0]⟩,⟨gD,44,dlC ep d (.slice pV V.length cV) (.slice pY Y.length cY) (.slice pP Pr.length cP) sC sS⟩,⟨gS,29,stC p q g h f sec (.slice pN N.length cN)⟩] (bt 9 79) 4:=by
   intro q6;refine (hA _ _ _ _).2 (WA.step [4,5] (.cons ?_ (.cons ?_ .nil)))
   ·refine Tw ?_;exact WA.go hA (hS95 q6)
   ·(refine WO.autoM (k:=?_);intro q5);exact WA.go hA (hS111 q5 q6)
  have hS103:∀ q5 q6,A [(8,pt gS),(9,yh p q g h),(10,.pointer (some ⟨gS,18,none⟩)),(5,pt q5),(6,pt q6),(2,pt gS),(3,pt gD),(4,.int .i64 0)] [⟨q5,26,zJ 0 0 0 0⟩,⟨q6,3,[.int .i64 0]⟩,⟨gD,44,dlC ep d (.slice pV V.length cV) (.slice pY Y.length cY) (.slice pP Pr.length cP) sC sS⟩,⟨gS,29,stC p q g h f sec (.slice pN N.length cN)⟩] (bt 9 103) 4:=by
   intro q5 q6;refine (hA _ _ _ _).2 (WA.step [3,7] (.cons ?_ (.cons ?_ .nil)))
   ·refine Tw ?_;exact WA.go hA (hS111 q5 q6)
   ·refine Tw ?_;exact WA.go hA (hS231 q5 q6)
  have hS227:∀ q5 q6,A [(8,pt gS),(9,yh p q g h),(5,pt q5),(6,pt q6),(2,pt gS),(3,pt gD),(4,.int .i64 0)] [⟨q5,26,zJ p q g h⟩,⟨q6,3,[.int .i64 0]⟩,⟨gD,44,dlC ep d (.slice pV V.length cV) (.slice pY Y.length cY) (.slice pP Pr.length cP) sC sS⟩,⟨gS,29,stC p q g h f sec (.slice pN N.length cN)⟩] (bt 9 227) 4:=by
   intro q5 q6;refine (hA _ _ _ _).2 (WA.step [2] (.cons ?_ .nil))
   ·refine Tw ?_;exact WA.go hA (hS231 q5 q6)
  have hS61:∀ q5,A [(8,pt gS),(10,.pointer (some ⟨gS,18,none⟩)),(11,.slice pN N.length cN),(12,.int .i64 (N.length:Int)),(5,pt q5),(2,pt gS),(3,pt gD),(4,.int .i64 0)] [⟨q5,26,zJ 0 0 0 0⟩,⟨gD,44,dlC ep d (.slice pV V.length cV) (.slice pY Y.length cY) (.slice pP Pr.length cP) sC sS⟩,⟨gS,29,stC p q g h f sec (.slice pN N.length cN)⟩] (bt 9 61) 4:=by
   intro q5;refine (hA _ _ _ _).2 (WA.step [1,6] (.cons ?_ (.cons ?_ .nil)))
   ·refine WO.does (zy (vs:=zJ p q g h)) ?_;exact WA.go hA (hS63 q5)
   ·(refine WO.autoM (k:=?_);intro q6);exact WA.go hA (hS125 q5 q6)
  have hS93:∀ q6,A [(8,pt gS),(10,.pointer (some ⟨gS,18,none⟩)),(11,.slice pN N.length cN),(12,.int .i64 (N.length:Int)),(6,pt q6),(2,pt gS),(3,pt gD),(4,.int .i64 0)] [⟨q6,3,[.int .i64 0]⟩,⟨gD,44,dlC ep d (.slice pV V.length cV) (.slice pY Y.length cY) (.slice pP Pr.length cP) sC sS⟩,⟨gS,29,stC p q g h f sec (.slice pN N.length cN)⟩] (bt 9 93) 4:=by
   intro q6;refine (hA _ _ _ _).2 (WA.step [1,5] (.cons ?_ (.cons ?_ .nil)))
   ·refine WO.does (zy (vs:=zJ p q g h)) ?_;exact WA.go hA (hS95 q6)
   ·(refine WO.autoM (k:=?_);intro q5);exact WA.go hA (hS125 q5 q6)
  have hS109:∀ q5 q6,A [(8,pt gS),(10,.pointer (some ⟨gS,18,none⟩)),(11,.slice pN N.length cN),(5,pt q5),(6,pt q6),(2,pt gS),(3,pt gD),(4,.int .i64 0)] [⟨q5,26,zJ 0 0 0 0⟩,⟨q6,3,[.int .i64 0]⟩,⟨gD,44,dlC ep d (.slice pV V.length cV) (.slice pY Y.length cY) (.slice pP Pr.length cP) sC sS⟩,⟨gS,29,stC p q g h f sec (.slice pN N.length cN)⟩] (bt 9 109) 4:=by
   intro q5 q6;refine (hA _ _ _ _).2 (WA.step [1,4] (.cons ?_ (.cons ?_ .nil)))
   ·refine WO.does (zy (vs:=zJ p q g h)) ?_;exact WA.go hA (hS111 q5 q6)
   ·refine Tw ?_;exact WA.go hA (hS125 q5 q6)
  have hS124:∀ q5 q6,A [(10,.pointer (some ⟨gS,18,none⟩)),(11,.slice pN N.length cN),(12,.int .i64 (N.length:Int)),(5,pt q5),(6,pt q6),(2,pt gS),(3,pt gD),(4,.int .i64 0)] [⟨q5,26,zJ 0 0 0 0⟩,⟨q6,3,[.int .i64 0]⟩,⟨gD,44,dlC ep d (.slice pV V.length cV) (.slice pY Y.length cY) (.slice pP Pr.length cP) sC sS⟩,⟨gS,29,stC p q g h f sec (.slice pN N.length cN)⟩] (bt 9 124) 4:=by
   intro q5 q6;refine (hA _ _ _ _).2 (WA.step [0] (.cons ?_ .nil))
   ·refine Tw ?_;exact WA.go hA (hS125 q5 q6)
  have hS15:A [(8,pt gS),(9,yh p q g h),(10,.pointer (some ⟨gS,18,none⟩)),(11,.slice pN N.length cN),(2,pt gS),(3,pt gD),(4,.int .i64 0)] [⟨gD,44,dlC ep d (.slice pV V.length cV) (.slice pY Y.length cY) (.slice pP Pr.length cP) sC sS⟩,⟨gS,29,stC p q g h f sec (.slice pN N.length cN)⟩] (bt 9 15) 5:=by
   refine (hA _ _ _ _).2 (WA.step [4,5,6] (.cons ?_ (.cons ?_ (.cons ?_ .nil))))
   ·refine Tw ?_;exact WA.go hA (hS31)
   ·(refine WO.autoM (k:=?_);intro q5);exact WA.go hA (hS47 q5)
   ·(refine WO.autoM (k:=?_);intro q6);exact WA.go hA (hS79 q6)
  have hS39:∀ q5,A [(8,pt gS),(9,yh p q g h),(10,.pointer (some ⟨gS,18,none⟩)),(5,pt q5),(2,pt gS),(3,pt gD),(4,.int .i64 0)] [⟨q5,26,zJ 0 0 0 0⟩,⟨gD,44,dlC ep d (.slice pV V.length cV) (.slice pY Y.length cY) (.slice pP Pr.length cP) sC sS⟩,⟨gS,29,stC p q g h f sec (.slice pN N.length cN)⟩] (bt 9 39) 5:=by
   intro q5;refine (hA _ _ _ _).2 (WA.step [3,6] (.cons ?_ (.cons ?_ .nil)))
   ·refine Tw ?_;exact WA.go hA (hS47 q5)
   ·(refine WO.autoM (k:=?_);intro q6);exact WA.go hA (hS103 q5 q6)
  have hS71:∀ q6,A [(8,pt gS),(9,yh p q g h),(10,.pointer (some ⟨gS,18,none⟩)),(6,pt q6),(2,pt gS),(3,pt gD),(4,.int .i64 0)] [⟨q6,3,[.int .i64 0]⟩,⟨gD,44,dlC ep d (.slice pV V.length cV) (.slice pY Y.length cY) (.slice pP Pr.length cP) sC sS⟩,⟨gS,29,stC p q g h f sec (.slice pN N.length cN)⟩] (bt 9 71) 5:=by
   intro q6;refine (hA _ _ _ _).2 (WA.step [3,5] (.cons ?_ (.cons ?_ .nil)))
   ·refine Tw ?_;exact WA.go hA (hS79 q6)
   ·(refine WO.autoM (k:=?_);intro q5);exact WA.go hA (hS103 q5 q6)
  have hS99:∀ q5 q6,A [(8,pt gS),(9,yh p q g h),(5,pt q5),(6,pt q6),(2,pt gS),(3,pt gD),(4,.int .i64 0)] [⟨q5,26,zJ 0 0 0 0⟩,⟨q6,3,[.int .i64 0]⟩,⟨gD,44,dlC ep d (.slice pV V.length cV) (.slice pY Y.length cY) (.slice pP Pr.length cP) sC sS⟩,⟨gS,29,stC p q g h f sec (.slice pN N.length cN)⟩] (bt 9 99) 5:=by
   intro q5 q6;refine (hA _ _ _ _).2 (WA.step [2,7] (.cons ?_ (.cons ?_ .nil)))
   ·refine Tw ?_;exact WA.go hA (hS103 q5 q6)
   ·refine Tw ?_;exact WA.go hA (hS227 q5 q6)
  have hS29:A [(8,pt gS),(10,.pointer (some ⟨gS,18,none⟩)),(11,.slice pN N.length cN),(12,.int .i64 (N.length:Int)),(2,pt gS),(3,pt gD),(4,.int .i64 0)] [⟨gD,44,dlC ep d (.slice pV V.length cV) (.slice pY Y.length cY) (.slice pP Pr.length cP) sC sS⟩,⟨gS,29,stC p q g h f sec (.slice pN N.length cN)⟩] (bt 9 29) 5:=by
   refine (hA _ _ _ _).2 (WA.step [1,5,6] (.cons ?_ (.cons ?_ (.cons ?_ .nil))))
   ·refine WO.does (zy (vs:=zJ p q g h)) ?_;exact WA.go hA (hS31)
   ·(refine WO.autoM (k:=?_);intro q5);exact WA.go hA (hS61 q5)
   ·(refine WO.autoM (k:=?_);intro q6);exact WA.go hA (hS93 q6)
  have hS45:∀ q5,A [(8,pt gS),(10,.pointer (some ⟨gS,18,none⟩)),(11,.slice pN N.length cN),(5,pt q5),(2,pt gS),(3,pt gD),(4,.int .i64 0)] [⟨q5,26,zJ 0 0 0 0⟩,⟨gD,44,dlC ep d (.slice pV V.length cV) (.slice pY Y.length cY) (.slice pP Pr.length cP) sC sS⟩,⟨gS,29,stC p q g h f sec (.slice pN N.length cN)⟩] (bt 9 45) 5:=by
   intro q5;refine (hA _ _ _ _).2 (WA.step [1,4,6] (.cons ?_ (.cons ?_ (.cons ?_ .nil))))
   ·refine WO.does (zy (vs:=zJ p q g h)) ?_;exact WA.go hA (hS47 q5)
   ·refine Tw ?_;exact WA.go hA (hS61 q5)
   ·(refine WO.autoM (k:=?_);intro q6);exact WA.go hA (hS109 q5 q6)
  have hS77:∀ q6,A [(8,pt gS),(10,.pointer (some ⟨gS,18,none⟩)),(11,.slice pN N.length cN),(6,pt q6),(2,pt gS),(3,pt gD),(4,.int .i64 0)] [⟨q6,3,[.int .i64 0]⟩,⟨gD,44,dlC ep d (.slice pV V.length cV) (.slice pY Y.length cY) (.slice pP Pr.length cP) sC sS⟩,⟨gS,29,stC p q g h f sec (.slice pN N.length cN)⟩] (bt 9 77) 5:=by
   intro q6;refine (hA _ _ _ _).2 (WA.step [1,4,5] (.cons ?_ (.cons ?_ (.cons ?_ .nil))))
   ·refine WO.does (zy (vs:=zJ p q g h)) ?_;exact WA.go hA (hS79 q6)
   ·refine Tw ?_;exact WA.go hA (hS93 q6)
   ·(refine WO.autoM (k:=?_);intro q5);exact WA.go hA (hS109 q5 q6)
  have hS101:∀ q5 q6,A [(8,pt gS),(10,.pointer (some ⟨gS,18,none⟩)),(5,pt q5),(6,pt q6),(2,pt gS),(3,pt gD),(4,.int .i64 0)] [⟨q5,26,zJ 0 0 0 0⟩,⟨q6,3,[.int .i64 0]⟩,⟨gD,44,dlC ep d (.slice pV V.length cV) (.slice pY Y.length cY) (.slice pP Pr.length cP) sC sS⟩,⟨gS,29,stC p q g h f sec (.slice pN N.length cN)⟩] (bt 9 101) 5:=by
   intro q5 q6;refine (hA _ _ _ _).2 (WA.step [1,3] (.cons ?_ (.cons ?_ .nil)))
   ·refine WO.does (zy (vs:=zJ p q g h)) ?_;exact WA.go hA (hS103 q5 q6)
   ·refine Tw ?_;exact WA.go hA (hS109 q5 q6)
  have hS60:∀ q5,A [(10,.pointer (some ⟨gS,18,none⟩)),(11,.slice pN N.length cN),(12,.int .i64 (N.length:Int)),(5,pt q5),(2,pt gS),(3,pt gD),(4,.int .i64 0)] [⟨q5,26,zJ 0 0 0 0⟩,⟨gD,44,dlC ep d (.slice pV V.length cV) (.slice pY Y.length cY) (.slice pP Pr.length cP) sC sS⟩,⟨gS,29,stC p q g h f sec (.slice pN N.length cN)⟩] (bt 9 60) 5:=by
   intro q5;refine (hA _ _ _ _).2 (WA.step [0,6] (.cons ?_ (.cons ?_ .nil)))
   ·refine Tw ?_;exact WA.go hA (hS61 q5)
   ·(refine WO.autoM (k:=?_);intro q6);exact WA.go hA (hS124 q5 q6)
  have hS92:∀ q6,A [(10,.pointer (some ⟨gS,18,none⟩)),(11,.slice pN N.length cN),(12,.int .i64 (N.length:Int)),(6,pt q6),(2,pt gS),(3,pt gD),(4,.int .i64 0)] [⟨q6,3,[.int .i64 0]⟩,⟨gD,44,dlC ep d (.slice pV V.length cV) (.slice pY Y.length cY) (.slice pP Pr.length cP) sC sS⟩,⟨gS,29,stC p q g h f sec (.slice pN N.length cN)⟩] (bt 9 92) 5:=by
   intro q6;refine (hA _ _ _ _).2 (WA.step [0,5] (.cons ?_ (.cons ?_ .nil)))
   ·refine Tw ?_;exact WA.go hA (hS93 q6)
   ·(refine WO.autoM (k:=?_);intro q5);exact WA.go hA (hS124 q5 q6)
  have hS108:∀ q5 q6,A [(10,.pointer (some ⟨gS,18,none⟩)),(11,.slice pN N.length cN),(5,pt q5),(6,pt q6),(2,pt gS),(3,pt gD),(4,.int .i64 0)] [⟨q5,26,zJ 0 0 0 0⟩,⟨q6,3,[.int .i64 0]⟩,⟨gD,44,dlC ep d (.slice pV V.length cV) (.slice pY Y.length cY) (.slice pP Pr.length cP) sC sS⟩,⟨gS,29,stC p q g h f sec (.slice pN N.length cN)⟩] (bt 9 108) 5:=by
   intro q5 q6;refine (hA _ _ _ _).2 (WA.step [0,4] (.cons ?_ (.cons ?_ .nil)))
   ·refine Tw ?_;exact WA.go hA (hS109 q5 q6)
   ·refine Tw ?_;exact WA.go hA (hS124 q5 q6)
  have hS7:A [(8,pt gS),(9,yh p q g h),(10,.pointer (some ⟨gS,18,none⟩)),(2,pt gS),(3,pt gD),(4,.int .i64 0)] [⟨gD,44,dlC ep d (.slice pV V.length cV) (.slice pY Y.length cY) (.slice pP Pr.length cP) sC sS⟩,⟨gS,29,stC p q g h f sec (.slice pN N.length cN)⟩] (bt 9 7) 6:=by
   refine (hA _ _ _ _).2 (WA.step [3,5,6] (.cons ?_ (.cons ?_ (.cons ?_ .nil))))
   ·refine Tw ?_;exact WA.go hA (hS15)
   ·(refine WO.autoM (k:=?_);intro q5);exact WA.go hA (hS39 q5)
   ·(refine WO.autoM (k:=?_);intro q6);exact WA.go hA (hS71 q6)
  have hS35:∀ q5,A [(8,pt gS),(9,yh p q g h),(5,pt q5),(2,pt gS),(3,pt gD),(4,.int .i64 0)] [⟨q5,26,zJ 0 0 0 0⟩,⟨gD,44,dlC ep d (.slice pV V.length cV) (.slice pY Y.length cY) (.slice pP Pr.length cP) sC sS⟩,⟨gS,29,stC p q g h f sec (.slice pN N.length cN)⟩] (bt 9 35) 6:=by
   intro q5;refine (hA _ _ _ _).2 (WA.step [2,6] (.cons ?_ (.cons ?_ .nil)))
   ·refine Tw ?_;exact WA.go hA (hS39 q5)
   ·(refine WO.autoM (k:=?_);intro q6);exact WA.go hA (hS99 q5 q6)
  have hS67:∀ q6,A [(8,pt gS),(9,yh p q g h),(6,pt q6),(2,pt gS),(3,pt gD),(4,.int .i64 0)] [⟨q6,3,[.int .i64 0]⟩,⟨gD,44,dlC ep d (.slice pV V.length cV) (.slice pY Y.length cY) (.slice pP Pr.length cP) sC sS⟩,⟨gS,29,stC p q g h f sec (.slice pN N.length cN)⟩] (bt 9 67) 6:=by
   intro q6;refine (hA _ _ _ _).2 (WA.step [2,5] (.cons ?_ (.cons ?_ .nil)))
   ·refine Tw ?_;exact WA.go hA (hS71 q6)
   ·(refine WO.autoM (k:=?_);intro q5);exact WA.go hA (hS99 q5 q6)
  have hS13:A [(8,pt gS),(10,.pointer (some ⟨gS,18,none⟩)),(11,.slice pN N.length cN),(2,pt gS),(3,pt gD),(4,.int .i64 0)] [⟨gD,44,dlC ep d (.slice pV V.length cV) (.slice pY Y.length cY) (.slice pP Pr.length cP) sC sS⟩,⟨gS,29,stC p q g h f sec (.slice pN N.length cN)⟩] (bt 9 13) 6:=by
   refine (hA _ _ _ _).2 (WA.step [1,4,5,6] (.cons ?_ (.cons ?_ (.cons ?_ (.cons ?_ .nil)))))
   ·refine WO.does (zy (vs:=zJ p q g h)) ?_;exact WA.go hA (hS15)
   ·refine Tw ?_;exact WA.go hA (hS29)
   ·(refine WO.autoM (k:=?_);intro q5);exact WA.go hA (hS45 q5)
   ·(refine WO.autoM (k:=?_);intro q6);exact WA.go hA (hS77 q6)
  have hS37:∀ q5,A [(8,pt gS),(10,.pointer (some ⟨gS,18,none⟩)),(5,pt q5),(2,pt gS),(3,pt gD),(4,.int .i64 0)] [⟨q5,26,zJ 0 0 0 0⟩,⟨gD,44,dlC ep d (.slice pV V.length cV) (.slice pY Y.length cY) (.slice pP Pr.length cP) sC sS⟩,⟨gS,29,stC p q g h f sec (.slice pN N.length cN)⟩] (bt 9 37) 6:=by
   intro q5;refine (hA _ _ _ _).2 (WA.step [1,3,6] (.cons ?_ (.cons ?_ (.cons ?_ .nil))))
   ·refine WO.does (zy (vs:=zJ p q g h)) ?_;exact WA.go hA (hS39 q5)
   ·refine Tw ?_;exact WA.go hA (hS45 q5)
   ·(refine WO.autoM (k:=?_);intro q6);exact WA.go hA (hS101 q5 q6)
  have hS69:∀ q6,A [(8,pt gS),(10,.pointer (some ⟨gS,18,none⟩)),(6,pt q6),(2,pt gS),(3,pt gD),(4,.int .i64 0)] [⟨q6,3,[.int .i64 0]⟩,⟨gD,44,dlC ep d (.slice pV V.length cV) (.slice pY Y.length cY) (.slice pP Pr.length cP) sC sS⟩,⟨gS,29,stC p q g h f sec (.slice pN N.length cN)⟩] (bt 9 69) 6:=by
   intro q6;refine (hA _ _ _ _).2 (WA.step [1,3,5] (.cons ?_ (.cons ?_ (.cons ?_ .nil))))
   ·refine WO.does (zy (vs:=zJ p q g h)) ?_;exact WA.go hA (hS71 q6)
   ·refine Tw ?_;exact WA.go hA (hS77 q6)
   ·(refine WO.autoM (k:=?_);intro q5);exact WA.go hA (hS101 q5 q6)
  have hS97:∀ q5 q6,A [(8,pt gS),(5,pt q5),(6,pt q6),(2,pt gS),(3,pt gD),(4,.int .i64 0)] [⟨q5,26,zJ 0 0 0 0⟩,⟨q6,3,[.int .i64 0]⟩,⟨gD,44,dlC ep d (.slice pV V.length cV) (.slice pY Y.length cY) (.slice pP Pr.length cP) sC sS⟩,⟨gS,29,stC p q g h f sec (.slice pN N.length cN)⟩] (bt 9 97) 6:=by
   intro q5 q6;refine (hA _ _ _ _).2 (WA.step [1,2] (.cons ?_ (.cons ?_ .nil)))
   ·refine WO.does (zy (vs:=zJ p q g h)) ?_;exact WA.go hA (hS99 q5 q6)
   ·refine Tw ?_;exact WA.go hA (hS101 q5 q6)
  have hS28:A [(10,.pointer (some ⟨gS,18,none⟩)),(11,.slice pN N.length cN),(12,.int .i64 (N.length:Int)),(2,pt gS),(3,pt gD),(4,.int .i64 0)] [⟨gD,44,dlC ep d (.slice pV V.length cV) (.slice pY Y.length cY) (.slice pP Pr.length cP) sC sS⟩,⟨gS,29,stC p q g h f sec (.slice pN N.length cN)⟩] (bt 9 28) 6:=by
   refine (hA _ _ _ _).2 (WA.step [0,5,6] (.cons ?_ (.cons ?_ (.cons ?_ .nil))))
   ·refine Tw ?_;exact WA.go hA (hS29)
   ·(refine WO.autoM (k:=?_);intro q5);exact WA.go hA (hS60 q5)
   ·(refine WO.autoM (k:=?_);intro q6);exact WA.go hA (hS92 q6)
  have hS44:∀ q5,A [(10,.pointer (some ⟨gS,18,none⟩)),(11,.slice pN N.length cN),(5,pt q5),(2,pt gS),(3,pt gD),(4,.int .i64 0)] [⟨q5,26,zJ 0 0 0 0⟩,⟨gD,44,dlC ep d (.slice pV V.length cV) (.slice pY Y.length cY) (.slice pP Pr.length cP) sC sS⟩,⟨gS,29,stC p q g h f sec (.slice pN N.length cN)⟩] (bt 9 44) 6:=by
   intro q5;refine (hA _ _ _ _).2 (WA.step [0,4,6] (.cons ?_ (.cons ?_ (.cons ?_ .nil))))
   ·refine Tw ?_;exact WA.go hA (hS45 q5)
   ·refine Tw ?_;exact WA.go hA (hS60 q5)
   ·(refine WO.autoM (k:=?_);intro q6);exact WA.go hA (hS108 q5 q6)
  have hS76:∀ q6,A [(10,.pointer (some ⟨gS,18,none⟩)),(11,.slice pN N.length cN),(6,pt q6),(2,pt gS),(3,pt gD),(4,.int .i64 0)] [⟨q6,3,[.int .i64 0]⟩,⟨gD,44,dlC ep d (.slice pV V.length cV) (.slice pY Y.length cY) (.slice pP Pr.length cP) sC sS⟩,⟨gS,29,stC p q g h f sec (.slice pN N.length cN)⟩] (bt 9 76) 6:=by
   intro q6;refine (hA _ _ _ _).2 (WA.step [0,4,5] (.cons ?_ (.cons ?_ (.cons ?_ .nil))))
   ·refine Tw ?_;exact WA.go hA (hS77 q6)
   ·refine Tw ?_;exact WA.go hA (hS92 q6)
   ·(refine WO.autoM (k:=?_);intro q5);exact WA.go hA (hS108 q5 q6)
  have hS100:∀ q5 q6,A [(10,.pointer (some ⟨gS,18,none⟩)),(5,pt q5),(6,pt q6),(2,pt gS),(3,pt gD),(4,.int .i64 0)] [⟨q5,26,zJ 0 0 0 0⟩,⟨q6,3,[.int .i64 0]⟩,⟨gD,44,dlC ep d (.slice pV V.length cV) (.slice pY Y.length cY) (.slice pP Pr.length cP) sC sS⟩,⟨gS,29,stC p q g h f sec (.slice pN N.length cN)⟩] (bt 9 100) 6:=by
   intro q5 q6;refine (hA _ _ _ _).2 (WA.step [0,3] (.cons ?_ (.cons ?_ .nil)))
   ·refine Tw ?_;exact WA.go hA (hS101 q5 q6)
   ·refine Tw ?_;exact WA.go hA (hS108 q5 q6)
  have hS3:A [(8,pt gS),(9,yh p q g h),(2,pt gS),(3,pt gD),(4,.int .i64 0)] [⟨gD,44,dlC ep d (.slice pV V.length cV) (.slice pY Y.length cY) (.slice pP Pr.length cP) sC sS⟩,⟨gS,29,stC p q g h f sec (.slice pN N.length cN)⟩] (bt 9 3) 7:=by
   refine (hA _ _ _ _).2 (WA.step [2,5,6] (.cons ?_ (.cons ?_ (.cons ?_ .nil))))
   ·refine Tw ?_;exact WA.go hA (hS7)
   ·(refine WO.autoM (k:=?_);intro q5);exact WA.go hA (hS35 q5)
   ·(refine WO.autoM (k:=?_);intro q6);exact WA.go hA (hS67 q6)
  have hS5:A [(8,pt gS),(10,.pointer (some ⟨gS,18,none⟩)),(2,pt gS),(3,pt gD),(4,.int .i64 0)] [⟨gD,44,dlC ep d (.slice pV V.length cV) (.slice pY Y.length cY) (.slice pP Pr.length cP) sC sS⟩,⟨gS,29,stC p q g h f sec (.slice pN N.length cN)⟩] (bt 9 5) 7:=by
   refine (hA _ _ _ _).2 (WA.step [1,3,5,6] (.cons ?_ (.cons ?_ (.cons ?_ (.cons ?_ .nil)))))
   ·refine WO.does (zy (vs:=zJ p q g h)) ?_;exact WA.go hA (hS7)
   ·refine Tw ?_;exact WA.go hA (hS13)
   ·(refine WO.autoM (k:=?_);intro q5);exact WA.go hA (hS37 q5)
   ·(refine WO.autoM (k:=?_);intro q6);exact WA.go hA (hS69 q6)
  have hS33:∀ q5,A [(8,pt gS),(5,pt q5),(2,pt gS),(3,pt gD),(4,.int .i64 0)] [⟨q5,26,zJ 0 0 0 0⟩,⟨gD,44,dlC ep d (.slice pV V.length cV) (.slice pY Y.length cY) (.slice pP Pr.length cP) sC sS⟩,⟨gS,29,stC p q g h f sec (.slice pN N.length cN)⟩] (bt 9 33) 7:=by
   intro q5;refine (hA _ _ _ _).2 (WA.step [1,2,6] (.cons ?_ (.cons ?_ (.cons ?_ .nil))))
   ·refine WO.does (zy (vs:=zJ p q g h)) ?_;exact WA.go hA (hS35 q5)
   ·refine Tw ?_;exact WA.go hA (hS37 q5)
   ·(refine WO.autoM (k:=?_);intro q6);exact WA.go hA (hS97 q5 q6)
  have hS65:∀ q6,A [(8,pt gS),(6,pt q6),(2,pt gS),(3,pt gD),(4,.int .i64 0)] [⟨q6,3,[.int .i64 0]⟩,⟨gD,44,dlC ep d (.slice pV V.length cV) (.slice pY Y.length cY) (.slice pP Pr.length cP) sC sS⟩,⟨gS,29,stC p q g h f sec (.slice pN N.length cN)⟩] (bt 9 65) 7:=by
   intro q6;refine (hA _ _ _ _).2 (WA.step [1,2,5] (.cons ?_ (.cons ?_ (.cons ?_ .nil))))
   ·refine WO.does (zy (vs:=zJ p q g h)) ?_;exact WA.go hA (hS67 q6)
   ·refine Tw ?_;exact WA.go hA (hS69 q6)
   ·(refine WO.autoM (k:=?_);intro q5);exact WA.go hA (hS97 q5 q6)
  have hS12:A [(10,.pointer (some ⟨gS,18,none⟩)),(11,.slice pN N.length cN),(2,pt gS),(3,pt gD),(4,.int .i64 0)] [⟨gD,44,dlC ep d (.slice pV V.length cV) (.slice pY Y.length cY) (.slice pP Pr.length cP) sC sS⟩,⟨gS,29,stC p q g h f sec (.slice pN N.length cN)⟩] (bt 9 12) 7:=by
   refine (hA _ _ _ _).2 (WA.step [0,4,5,6] (.cons ?_ (.cons ?_ (.cons ?_ (.cons ?_ .nil)))))
   ·refine Tw ?_;exact WA.go hA (hS13)
   ·refine Tw ?_;exact WA.go hA (hS28)
   ·(refine WO.autoM (k:=?_);intro q5);exact WA.go hA (hS44 q5)
   ·(refine WO.autoM (k:=?_);intro q6);exact WA.go hA (hS76 q6)
  have hS36:∀ q5,A [(10,.pointer (some ⟨gS,18,none⟩)),(5,pt q5),(2,pt gS),(3,pt gD),(4,.int .i64 0)] [⟨q5,26,zJ 0 0 0 0⟩,⟨gD,44,dlC ep d (.slice pV V.length cV) (.slice pY Y.length cY) (.slice pP Pr.length cP) sC sS⟩,⟨gS,29,stC p q g h f sec (.slice pN N.length cN)⟩] (bt 9 36) 7:=by
   intro q5;refine (hA _ _ _ _).2 (WA.step [0,3,6] (.cons ?_ (.cons ?_ (.cons ?_ .nil))))
   ·refine Tw ?_;exact WA.go hA (hS37 q5)
   ·refine Tw ?_;exact WA.go hA (hS44 q5)
   ·(refine WO.autoM (k:=?_);intro q6);exact WA.go hA (hS100 q5 q6)
  have hS68:∀ q6,A [(10,.pointer (some ⟨gS,18,none⟩)),(6,pt q6),(2,pt gS),(3,pt gD),(4,.int .i64 0)] [⟨q6,3,[.int .i64 0]⟩,⟨gD,44,dlC ep d (.slice pV V.length cV) (.slice pY Y.length cY) (.slice pP Pr.length cP) sC sS⟩,⟨gS,29,stC p q g h f sec (.slice pN N.length cN)⟩] (bt 9 68) 7:=by
   intro q6;refine (hA _ _ _ _).2 (WA.step [0,3,5] (.cons ?_ (.cons ?_ (.cons ?_ .nil))))
   ·refine Tw ?_;exact WA.go hA (hS69 q6)
   ·refine Tw ?_;exact WA.go hA (hS76 q6)
   ·(refine WO.autoM (k:=?_);intro q5);exact WA.go hA (hS100 q5 q6)
  have hS96:∀ q5 q6,A [(5,pt q5),(6,pt q6),(2,pt gS),(3,pt gD),(4,.int .i64 0)] [⟨q5,26,zJ 0 0 0 0⟩,⟨q6,3,[.int .i64 0]⟩,⟨gD,44,dlC ep d (.slice pV V.length cV) (.slice pY Y.length cY) (.slice pP Pr.length cP) sC sS⟩,⟨gS,29,stC p q g h f sec (.slice pN N.length cN)⟩] (bt 9 96) 7:=by
   intro q5 q6;refine (hA _ _ _ _).2 (WA.step [0,2] (.cons ?_ (.cons ?_ .nil)))
   ·refine Tw ?_;exact WA.go hA (hS97 q5 q6)
   ·refine Tw ?_;exact WA.go hA (hS100 q5 q6)
  have hS1:A [(8,pt gS),(2,pt gS),(3,pt gD),(4,.int .i64 0)] [⟨gD,44,dlC ep d (.slice pV V.length cV) (.slice pY Y.length cY) (.slice pP Pr.length cP) sC sS⟩,⟨gS,29,stC p q g h f sec (.slice pN N.length cN)⟩] (bt 9 1) 8:=by
   refine (hA _ _ _ _).2 (WA.step [1,2,5,6] (.cons ?_ (.cons ?_ (.cons ?_ (.cons ?_ .nil)))))
   ·refine WO.does (zy (vs:=zJ p q g h)) ?_;exact WA.go hA (hS3)
   ·refine Tw ?_;exact WA.go hA (hS5)
   ·(refine WO.autoM (k:=?_);intro q5);exact WA.go hA (hS33 q5)
   ·(refine WO.autoM (k:=?_);intro q6);exact WA.go hA (hS65 q6)
  have hS4:A [(10,.pointer (some ⟨gS,18,none⟩)),(2,pt gS),(3,pt gD),(4,.int .i64 0)] [⟨gD,44,dlC ep d (.slice pV V.length cV) (.slice pY Y.length cY) (.slice pP Pr.length cP) sC sS⟩,⟨gS,29,stC p q g h f sec (.slice pN N.length cN)⟩] (bt 9 4) 8:=by
   refine (hA _ _ _ _).2 (WA.step [0,3,5,6] (.cons ?_ (.cons ?_ (.cons ?_ (.cons ?_ .nil)))))
   ·refine Tw ?_;exact WA.go hA (hS5)
   ·refine Tw ?_;exact WA.go hA (hS12)
   ·(refine WO.autoM (k:=?_);intro q5);exact WA.go hA (hS36 q5)
   ·(refine WO.autoM (k:=?_);intro q6);exact WA.go hA (hS68 q6)
  have hS32:∀ q5,A [(5,pt q5),(2,pt gS),(3,pt gD),(4,.int .i64 0)] [⟨q5,26,zJ 0 0 0 0⟩,⟨gD,44,dlC ep d (.slice pV V.length cV) (.slice pY Y.length cY) (.slice pP Pr.length cP) sC sS⟩,⟨gS,29,stC p q g h f sec (.slice pN N.length cN)⟩] (bt 9 32) 8:=by
   intro q5;refine (hA _ _ _ _).2 (WA.step [0,2,6] (.cons ?_ (.cons ?_ (.cons ?_ .nil))))
   ·refine Tw ?_;exact WA.go hA (hS33 q5)
   ·refine Tw ?_;exact WA.go hA (hS36 q5)
   ·(refine WO.autoM (k:=?_);intro q6);exact WA.go hA (hS96 q5 q6)
  have hS64:∀ q6,A [(6,pt q6),(2,pt gS),(3,pt gD),(4,.int .i64 0)] [⟨q6,3,[.int .i64 0]⟩,⟨gD,44,dlC ep d (.slice pV V.length cV) (.slice pY Y.length cY) (.slice pP Pr.length cP) sC sS⟩,⟨gS,29,stC p q g h f sec (.slice pN N.length cN)⟩] (bt 9 64) 8:=by
   intro q6;refine (hA _ _ _ _).2 (WA.step [0,2,5] (.cons ?_ (.cons ?_ (.cons ?_ .nil))))
   ·refine Tw ?_;exact WA.go hA (hS65 q6)
   ·refine Tw ?_;exact WA.go hA (hS68 q6)
   ·(refine WO.autoM (k:=?_);intro q5);exact WA.go hA (hS96 q5 q6)
  have hS0:A [(2,pt gS),(3,pt gD),(4,.int .i64 0)] [⟨gD,44,dlC ep d (.slice pV V.length cV) (.slice pY Y.length cY) (.slice pP Pr.length cP) sC sS⟩,⟨gS,29,stC p q g h f sec (.slice pN N.length cN)⟩] (bt 9 0) 9:=by
   refine (hA _ _ _ _).2 (WA.step [0,2,5,6] (.cons ?_ (.cons ?_ (.cons ?_ (.cons ?_ .nil)))))
   ·refine Tw ?_;exact WA.go hA (hS1)
   ·refine Tw ?_;exact WA.go hA (hS4)
   ·(refine WO.autoM (k:=?_);intro q5);exact WA.go hA (hS32 q5)
   ·(refine WO.autoM (k:=?_);intro q6);exact WA.go hA (hS64 q6)
  exact (hA _ _ _ _).2 (WA.less _ _ ((hA _ _ _ _).1 hS0))
 intro q5 q6;refine (hA _ _ _ _).2 (WA.done ?_)
 repeat (first|refine WO.does (zO rfl rfl) ?_|refine Ta ?_|(refine Tm ?_;intro _)|refine Tc ?_|exact Tz)
 rename_i gi
 repeat (first|refine WO.does (zO rfl rfl) ?_|refine Ta ?_|(refine Tm ?_;intro _)|refine Tc ?_|exact Tz)
 refine WO.makes (zd (cs:=[fV (46,[pt gS]),fV (48,[pt gS,pt gD,pt q6,pt gi]),fV (49,[pt q5,pt gD,pt gS]),fV (51,[pt gD,pt q5,pt gS]),fV (53,[pt q5,pt gS,pt gD])]) rfl (by decide) rfl) ?_;intro gR;refine WO.calls (fs:=[]) (cs:=[]) (aaS (R:=CkR p q g h f sec pN pV pY pP cN cV cY cP N ep d V Y Pr sC sS gS gD q5 q6 gi) (fun w w' k hm=>CkR.mod (k:=k) (hm:=hm)) _ r gR 5 (by simp) (hAsk gS gD q5 q6 gi)) rfl rfl rfl (fun w1 hm=>⟨Hs.sg hm,⟨Hs.sg hm,Hs.sg hm,Hs.sg hm,Hs.sg hm,Hs.sg hm,hN.mod hm.mod,hV.mod hm.mod,hY.mod hm.mod,hP.mod hm.mod⟩⟩) (fun v N1 hv=>?_);cases r with
 | none =>
  obtain⟨rfl,rfl⟩:=hv
  try dsimp only[List.cons_append,List.nil_append]
  repeat (first|refine Ta ?_|(refine Tm ?_;intro _)|refine WO.acall (hc:=abo) (k:=?_)|refine Tc ?_|exact Tz)
  done
 | some e =>
  obtain⟨gE,rfl,rfl⟩:=hv
  try dsimp only[List.cons_append,List.nil_append]
  repeat (first|refine Ta ?_|(refine Tm ?_;intro _)|refine WO.acallR (hc:=aaU gE e) (hR:=fun w1 hm=>⟨hH.mod hm.mod (by simp),Hs.sg hm⟩) (k:=?_)|refine Tc ?_|exact Tz)
  done
end
end Sx
end
section
open Go Go.RowKit Go.BigFrame
namespace Sx
section
variable (p q g h:Nat) (f sec:Int) (pN pV pY pP:Option Addr) (cN cV cY cP:Nat) (N:List (Nat × Nat)) (ep d:Nat) (V Y:List Nat) (Pr:List (Nat × Nat)) (sC sS:Nat)
theorem yJ (hp:p<zc) (hq:q<zc) (hg:g<zc) (hh:h<zc) (hN:z8 N) (hNl:N.length≤100)
  (hf1 : -9223372036854775808≤f) (hf2:f≤9223372036854775807) (hs1 : -9223372036854775808≤sec) (hs2:sec≤9223372036854775807)
  (hd:d<256) (hV:∀ a∈V,a<zc) (hY:∀ a∈Y,a<zc) (hPr:z8 Pr) (hVl:V.length≤100) (hYl:Y.length≤100) (hPl:Pr.length≤100) (hsC:sC<zc) (hsS:sS<zc) :
  Fn Tryz.prog 15 [stV p q g h f sec (.slice pN N.length cN),dlV ep d (.slice pV V.length cV) (.slice pY Y.length cY) (.slice pP Pr.length cP) sC sS]
   (fun w=>(RdF zI (.slice pN N.length cN) N w∧RdF zb (.slice pV V.length cV) V w∧RdF zb (.slice pY Y.length cY) Y w∧RdF pfC (.slice pP Pr.length cP) Pr w)∧tI w) (Is (.int .i64 ((ckE p q g h f sec N ep d V Y Pr sC sS).getD 0))) :=
 gr p q g h f sec pN pV pY pP cN cV cY cP N ep d V Y Pr sC sS _ (fun gS gD gg gn gi=>aaD p q g h f sec pN pV pY pP cN cV cY cP N ep d V Y Pr sC sS hp hq hg hh hN hNl hf1 hf2 hs1 hs2 hd hV hY hPr hVl hYl hPl hsC hsS gS gD gg gn gi)
end
end Sx
end
end Go.Proofs.YtegjemedanccoaaGreatDoor
