/- Part 41 of the proof. -/
import Derived.Test.YtiaibpcaloigkaaGreatDoorG39
import Derived.Test.YtiaibpcaloigkaaGreatDoorG40
set_option linter.unusedSimpArgs false
set_option linter.unusedVariables false
set_option maxHeartbeats 8000000
namespace Go.Proofs.YtiaibpcaloigkaaGreatDoor
section
open Go Go.RowKit Go.BigFrame
namespace Sx
attribute [local irreducible] DQ WC WO WX wd
end Sx
end
section
open Go Go.RowKit Go.BigFrame
namespace Sx
def ahk (ck:Od→Bool) (A:List Od) (x:Od):List Od:=if (A.any fun y=>x.n == y.n)=false∧ck x=true then A++[x] else A
def acu (ck:Od→Bool) (ls:List Od):List Od:=ls.foldl (ahk ck) []
theorem ba {n i:Nat} (h:i<n):dqD n i=i+1:=by
 unfold dqD;rw[Nat.mod_eq_of_lt h];omega
end Sx
end
section
open Go Go.RowKit Go.BigFrame
namespace Sx
attribute [local irreducible] DQ WC WO WX wd
theorem Pk.mid {g t:Nat} {cs:LV} {L2:List Ent}:∀ L1:List Ent,Pk (L1++(⟨g,t,cs⟩::L2)) g t cs (L1++L2)
 | []=>.here
 | _::L1=>.there (Pk.mid L1)
section
variable {P:Program} {w0:World} {gs:LN} {nn:Nat} {ops:List Oper} {Q:Exit→Act→World→Prop} {K:List (Nat × Value)} {rest:List Oper}
variable {d:Nat} {ty:TypeId} {pos:String} {after:Array Edge} {gd:Option (Nat × Bool)}
theorem WO.appR {st xt e size bts g c n m l:Nat} {z ys B:LV} {x y:Operand} {v:Value} {L L1 L2:List Ent} [SlT P st e size] [SlT P xt e size] [ElT P e bts z] (hs:size=z.length) (hx:ev K x=some (agV g c n n)) (hy:ev K y=some v)
  (hL:L=L1++(rwL e g B (mkz (c - n) z) n++L2)) (hB:B.length=n*z.length) (hr:0<n→n≤c∧c<9223372036854775808) (hrd:Rds w0 gs L v m ys) (hyl:ys.length=m*z.length) (h1:ys.all Value.oneCell'=true) (hm:0<m) (hl:n+m=l) (hlb:l<9223372036854775808) (hnc:l*bts≤140737488355328) (hb:bts≠0) (ht:e≠0)
  (k:∀ g' c',c' < 9223372036854775808→l≤c'→WO P w0 gs nn ops Q ((d,AQ g' l c')::K) (⟨g',e,B++ys++mkz (c' - l) z⟩::(L1++L2)) rest) (hd:Nat.blt d nn=true:=by rfl) (hw:wk ops K gd=some true:=by rfl) :
  WO P w0 gs nn ops Q K L (⟨some d,.call { callee:=.builtin .append,args:=#[x,y],argTypes:=#[st,xt] },ty,pos,after,gd⟩::rest):=by
 subst hL;cases n with
 | zero =>
  have hB0:B=[]:=List.length_eq_zero_iff.1 Om;subst hB0;obtain rfl:m=l:=by omega
  exact WO.appNZ (z:=z) hs hx hy hrd hyl hm hlb hnc hb (fun g' c' a b=>by have:=k g' c' a b;simpa [rwL] using this) hd hw
 | succ n =>
  obtain⟨r1,r2⟩:=hr Om;exact WO.appKZ (z:=z) hs hx hy hB r1 (Pk.mid L1) hrd hyl h1 hl hlb r2 hnc hb ht k hd hw
end
def wy0:Bool→Nat→Nat→Value
 | true,m,g=>AQ g m m
 | false,_,_=>.slice none 0 0
def wyE:Bool→Int
 | true=>0
 | false=>7
abbrev wyV (b:Bool) (m g:Nat):Value:=.tuple #[wy0 b m g,.int .i64 (wyE b)]
def wyN:Bool→List Nat→Nat→List Ent
 | true,os,g=>[⟨g,24,os.flatMap zc⟩]
 | false,_,_=>[]
def Wy (b:Bool) (m:Nat) (os:LN):Value→List Ent→Prop:=Ex (fun s=>wyV b m (s 0)) (fun s=>wyN b os (s 0)) (fun _=>True)
def feR:Nat→Int
 | 0=>0
 | _+1=>7
theorem aaS {R:World→Prop} (hR:∀ w w',R w→Mod [] w w'→R w') {f1 f2:Nat} [Cal Tryz.prog f1] [Cal Tryz.prog f2] (c1 c2:LV) (b1 b2:Bool) (m:Nat) (os:LN) (h1:Fn Tryz.prog f1 c1 R (Wy b1 m os)) (h2:Fn Tryz.prog f2 c2 R (Wy b2 m os)) (gR c:Nat) :
  Fn Tryz.prog 33 [AQ gR 2 c] (fun w=>Seg w gR 0 [fV (f1,c1),fV (f2,c2)]∧R w) (Wy (b1 || b2) m os):=by
 refine Fn.enter Tryz.func33 rfl rfl rfl ?_;intro w hw;obtain⟨hwF,hwR⟩:=hw
 repeat (first|refine Tk ?_|intro _|exact Tz)
 refine WC.loopI (σ:=Nat) (fun i=>i=0∨(i=1∧b1=false)∨(i=2∧b1=false∧b2=false)) (fun i=>[(2,.slice none 0 0),(3,.int .i64 (feR i)),(6,AQ gR 2 c),(7,.int .i64 2),(8,.int .i64 (i:Int))]) (fun _=>[]) (fun i=>2 - i) 0 (fun i hi=>?_) (.inl rfl)
 try dsimp only at hi ⊢
 rcases hi with rfl|⟨rfl,hb1⟩|⟨rfl,hb1,hb2⟩
 ·repeat (first|refine WO.does (zb (o':=0+0*1) rfl rfl Dtt rfl) ?_|refine WO.does (zm (v:=fV (f1,c1)) (hs:=hwF) (hle:=Nat.zero_le _) (hc:=rfl)) ?_|refine Tj ?_|intro _|refine Tc ?_|exact Tz)
  refine WO.calls (fs:=[]) (cs:=c1) h1 rfl rfl Sm (fun w1 hm=>hR _ _ hwR hm.mod) (fun v N hv=>?_);obtain⟨s,rfl,rfl,_⟩:=hv;cases b1 with
  | true =>
   dsimp only[wy0,wyE,wyN,List.cons_append,List.nil_append]
   repeat (first|refine WO.does (yR rfl rfl Dtt) ?_|refine Tj ?_|intro _|refine Tc ?_|exact Tz)
   exact WX.ret2 rfl Rv.t Rv.t [⟨s 0,24,os.flatMap zc⟩] (Lle.c Lle.nil) ⟨s,rfl,rfl,trivial⟩
  | false =>
   dsimp only[wy0,wyE,wyN,List.cons_append,List.nil_append]
   repeat (first|refine WO.does (zA rfl rfl Dtt) ?_|refine Tj ?_|intro _|refine Tc ?_|exact Tz)
   exact WX.metI 1 (hs:=⟨.inr (.inl ⟨rfl,rfl⟩),by decide⟩)
 ·subst hb1
  repeat (first|refine WO.does (zb (o':=0+1*1) rfl rfl Dtt rfl) ?_|refine WO.does (zm (v:=fV (f2,c2)) (hs:=hwF) (hle:=Nat.zero_le _) (hc:=rfl)) ?_|refine Tj ?_|intro _|refine Tc ?_|exact Tz)
  refine WO.calls (fs:=[]) (cs:=c2) h2 rfl rfl Sm (fun w1 hm=>hR _ _ hwR hm.mod) (fun v N hv=>?_);obtain⟨s,rfl,rfl,_⟩:=hv;cases b2 with
  | true =>
   dsimp only[wy0,wyE,wyN,List.cons_append,List.nil_append]
   repeat (first|refine WO.does (yR rfl rfl Dtt) ?_|refine Tj ?_|intro _|refine Tc ?_|exact Tz)
   exact WX.ret2 rfl Rv.t Rv.t [⟨s 0,24,os.flatMap zc⟩] (Lle.c Lle.nil) ⟨s,rfl,rfl,trivial⟩
  | false =>
   dsimp only[wy0,wyE,wyN,List.cons_append,List.nil_append]
   repeat (first|refine WO.does (zA rfl rfl Dtt) ?_|refine Tj ?_|intro _|refine Tc ?_|exact Tz)
   exact WX.metI 2 (hs:=⟨.inr (.inr ⟨rfl,rfl,rfl⟩),by decide⟩)
 ·subst hb1 hb2
  repeat (first|refine Tk ?_|intro _|exact Tz)
  exact WX.ret2 rfl Rv.t Rv.t [] Lle.nil ⟨fun _=>0,rfl,rfl,trivial⟩
abbrev evC (sD sO sS:Value):List Value:=[sD,sO,sS]
abbrev evV (sD sO sS:Value):Value:=.agg #[sD,sO,sS]
structure Sw where
 e:Nat
 d:Nat
 pt:Option Addr
 P:List Nat
 c:Nat
def swC (x:Sw):List Value:=[.int .u64 (x.e:Int),.int .u8 (x.d:Int),.slice x.pt x.P.length x.c]
theorem dG (x:Sw):(swC x).length=3:=rfl
structure EvR (ep:Nat) (pD:Option Addr) (cD:Nat) (T:List (Dd × Dk)) (pO:Option Addr) (cO:Nat) (ls:List Od) (pS:Option Addr) (cS:Nat) (SH:List Sw) (w:World):Prop where
 d:RdF (ddC ep) (.slice pD T.length cD) T w
 a:∀ y∈T,fQ w y.1 y.2
 o:RdF odC (.slice pO ls.length cO) ls w
 s:RdF swC (.slice pS SH.length cS) SH w
 p:∀ x∈SH,RdF zc (.slice x.pt x.P.length x.c) x.P w
theorem fQ.mod {w w' : World} {x:Dd} {b:Dk} (h:fQ w x b) (hm:Mod [] w w'):fQ w' x b:=⟨h.v.mod hm,h.y.mod hm,h.p.mod hm⟩
theorem EvR.mod {ep cD cO cS:Nat} {pD pO pS:Option Addr} {T:List (Dd × Dk)} {ls:List Od} {SH:List Sw} {w w' : World} (h:EvR ep pD cD T pO cO ls pS cS SH w) (hm:Mod [] w w'):EvR ep pD cD T pO cO ls pS cS SH w' :=
 ⟨h.d.mod hm,fun y hy=>(h.a y hy).mod hm,h.o.mod hm,h.s.mod hm,fun x hx=>(h.p x hx).mod hm⟩
section
variable (p q g h F m:Nat) (pt:Option Addr) (c:Nat) (N:LP) (ep:Nat) (y:Dd × Dk) (sD sO sS:Value)
theorem bm:Fn Tryz.prog 34 [stV p q g h (F:Int) (m:Int) (.slice pt N.length c),.agg (ddC ep y).toArray,evV sD sO sS] Tr
  (Ex (fun s=>fV (88,[Sx.pt (s 2),Sx.pt (s 1),Sx.pt (s 0)])) (fun s=>[⟨s 2,59,evC sD sO sS⟩,⟨s 1,51,ddC ep y⟩,⟨s 0,36,stC p q g h (F:Int) (m:Int) (.slice pt N.length c)⟩]) (fun _=>True)):=by
 refine Fn.enter Tryz.func34 rfl rfl rfl ?_;intro w hw
 repeat (first|refine WO.does (zH rfl rfl) ?_|refine Tj ?_|intro _|refine Tc ?_|exact Tz)
 rename_i g0 g1 g2;exact WX.ret1 rfl Rv.t [⟨g2,59,evC sD sO sS⟩,⟨g1,51,ddC ep y⟩,⟨g0,36,stC p q g h (F:Int) (m:Int) (.slice pt N.length c)⟩] (by repeat (first|exact Lle.nil|refine Lle.c ?_)) ⟨fun i=>match i with|0=>g0|1=>g1|_=>g2,rfl,rfl,trivial⟩
theorem iP:Fn Tryz.prog 35 [stV p q g h (F:Int) (m:Int) (.slice pt N.length c),.agg (ddC ep y).toArray,evV sD sO sS] Tr
  (Ex (fun s=>fV (91,[Sx.pt (s 2),Sx.pt (s 1),Sx.pt (s 0)])) (fun s=>[⟨s 2,59,evC sD sO sS⟩,⟨s 1,51,ddC ep y⟩,⟨s 0,36,stC p q g h (F:Int) (m:Int) (.slice pt N.length c)⟩]) (fun _=>True)):=by
 refine Fn.enter Tryz.func35 rfl rfl rfl ?_;intro w hw
 repeat (first|refine WO.does (zH rfl rfl) ?_|refine Tj ?_|intro _|refine Tc ?_|exact Tz)
 rename_i g0 g1 g2;exact WX.ret1 rfl Rv.t [⟨g2,59,evC sD sO sS⟩,⟨g1,51,ddC ep y⟩,⟨g0,36,stC p q g h (F:Int) (m:Int) (.slice pt N.length c)⟩] (by repeat (first|exact Lle.nil|refine Lle.c ?_)) ⟨fun i=>match i with|0=>g0|1=>g1|_=>g2,rfl,rfl,trivial⟩
end
section
variable (p q g h F m:Nat) (pt:Option Addr) (c:Nat) (N:LP) (ep:Nat) (y:Dd × Dk) (pD:Option Addr) (cD:Nat) (T:List (Dd × Dk)) (pO:Option Addr) (cO:Nat) (ls:List Od) (pS:Option Addr) (cS:Nat) (SH:List Sw) (gE gD gS:Nat) (os:LN)
structure WyR (w:World):Prop where
 e:Seg w gE 0 (evC (.slice pD T.length cD) (.slice pO ls.length cO) (.slice pS SH.length cS))
 d:Seg w gD 0 (ddC ep y)
 s:Seg w gS 0 (stC p q g h (F:Int) (m:Int) (.slice pt N.length c))
 n:RdF ya (.slice pt N.length c) N w
 v:EvR ep pD cD T pO cO ls pS cS SH w
 a:fQ w y.1 y.2
theorem WyR.mod {w w' : World} (k:WyR p q g h F m pt c N ep y pD cD T pO cO ls pS cS SH gE gD gS w) (hm:Mod [] w w'):WyR p q g h F m pt c N ep y pD cD T pO cO ls pS cS SH gE gD gS w' :=
 ⟨k.e.mod hm Sm,k.d.mod hm Sm,k.s.mod hm Sm,k.n.mod hm,k.v.mod hm,k.a.mod hm⟩
def swB (ep d:Nat) (x:Sw):Bool:=decide (x.e=ep) && decide (x.d=d)
theorem aak (hp:p<ze) (hq:q<ze) (hg:g<ze) (hh:h<ze) (hN:zZ N) (hNl:N.length≤100) (hF:F≤10) (hm:m≤10) (hf:fG y.1) (hV:∀ a∈y.1.V,a<ze) (hSl:SH.length≤1000)
  (hSn:∀ x∈SH,(∀ a∈x.P,a<ze)∧x.P.length≤100) (hS:∀ x∈SH,swB ep y.1.d x=true→aee p q g h (F:Int) (m:Int) N y.1.V x.P=true∧mz p q g h (F:Int) (m:Int) N x.P=true∧osL p q h x.P m=os) :
  Fn Tryz.prog 88 [Sx.pt gE,Sx.pt gD,Sx.pt gS] (WyR p q g h F m pt c N ep y pD cD T pO cO ls pS cS SH gE gD gS) (Wy (SH.any (swB ep y.1.d)) m os):=by
 refine Fn.enter Tryz.func88 rfl rfl rfl ?_;intro w hw;obtain⟨w1,w2,w3,w4,w5,w6⟩:=hw
 repeat (first|refine Tk ?_|intro _|exact Tz)
 refine WC.loopI (σ:=Nat) (fun i=>i≤SH.length∧∀ x∈SH.take i,swB ep y.1.d x=false) (fun i=>[(0,Sx.pt gE),(1,Sx.pt gD),(2,Sx.pt gS),(3,.slice none 0 0),(4,.int .i64 0),(8,.slice pS SH.length cS),(9,.int .i64 (SH.length:Int)),(10,.int .i64 (i:Int))]) (fun _=>[]) (fun i=>SH.length - i) 0 (fun i hi=>?_) ⟨Nat.zero_le _,by simp⟩
 try dsimp only at hi ⊢
 obtain⟨hi,hno⟩:=hi
 by_cases hlt:i<SH.length
 ·obtain⟨x,hx⟩ : ∃ x,SH[i]?=some x:=⟨_,List.getElem?_eq_getElem hlt⟩;have hxm:=List.mem_of_getElem? hx;obtain⟨bS,oS,rfl,_,hsS⟩:=id w5.s |>.get hx
  have hcx:cut (SH.flatMap swC) (oS+i*3 - oS) 3=swC x:=by rw[Nat.add_sub_cancel_left];exact zL dG hx
  have hadd2:IntKind.i64.wrap ((i:Int)+1)=((i+1:Nat):Int):=zl Om Om Om;have hgo:swB ep y.1.d x=false→i+1≤SH.length∧∀ z∈SH.take (i+1),swB ep y.1.d z=false:=fun hb=>⟨by omega,fun z hz=>by
   rw[List.take_add_one,hx] at hz
   rcases List.mem_append.1 hz with hz|hz
   ·exact hno z hz
   ·have:z=x:=by simpa using hz
    rw[this];exact hb⟩
  have hme:SH.length - (i+1)<SH.length - i:=by omega
  by_cases he:x.e=ep
  ·by_cases hd:x.d=y.1.d
   ·have hb:swB ep y.1.d x=true:=by unfold swB;rw[decide_eq_true he,decide_eq_true hd];rfl
    have hany:SH.any (swB ep y.1.d)=true:=List.any_eq_true.2 ⟨x,hxm,hb⟩;rw[hany];obtain⟨k1,k2,k3⟩:=hS x hxm hb;obtain⟨k4,k5⟩:=hSn x hxm;have hC:=adF p q g h (F:Int) (m:Int) pt (some ⟨y.2.v,0,none⟩) (some ⟨y.2.y,0,none⟩) (some ⟨y.2.p,0,none⟩) c y.1.V.length y.1.Y.length y.1.P.length N ep y.1.d y.1.V y.1.Y y.1.P y.1.c y.1.s x.P x.pt x.c hp hq hg hh hN hNl Om Om Om Om hV hf.vl k4 k5;rw[k1] at hC;have hO:=abk p q g h (F:Int) pt c N x.pt x.c x.P m hp hq hg hh hN hNl k4 k5 Om Om Om k2;rw[k3] at hO
    repeat (first|refine Tk ?_|intro _|exact Tz)
    refine WC.dT rfl Om ?_
    repeat (first|refine WO.does (zb (o':=oS+i*3) rfl rfl hlt rfl) ?_|refine WO.does (zn (vs:=swC x) (hs:=hsS) (hle:=Nat.le_add_right _ _) (hc:=hcx)) ?_|refine WO.does (zO rfl rfl Om) ?_|refine WO.does (zn (vs:=ddC ep y) (hs:=w2) (hc:=rfl)) ?_|refine WO.does (zn (vs:=stC p q g h (F:Int) (m:Int) (.slice pt N.length c)) (hs:=w3) (hc:=rfl)) ?_|refine WO.acallR (hc:=hC) (hR:=fun wx hm=>⟨w4.mod hm.mod,w6.v.mod hm.mod,(w5.p x hxm).mod hm.mod⟩) (k:=?_)|refine Tj ?_|intro _|refine Tc ?_|exact Tz)
    refine WO.acallX (hc:=hO) (hR:=fun wx hm=>⟨w4.mod hm.mod,(w5.p x hxm).mod hm.mod⟩) (k:=fun s _=>?_)
    repeat (first|refine Tk ?_|intro _|exact Tz)
    exact WX.ret2 rfl Rv.t Rv.t [⟨s 0,24,os.flatMap zc⟩] (Lle.c Lle.nil) ⟨s,rfl,rfl,trivial⟩
   ·have hb:swB ep y.1.d x=false:=by unfold swB;rw[decide_eq_false hd,Bool.and_false]
    repeat (first|refine Tk ?_|intro _|exact Tz)
    refine WC.dT rfl Om ?_
    repeat (first|refine WO.does (zb (o':=oS+i*3) rfl rfl hlt rfl) ?_|refine WO.does (zn (vs:=swC x) (hs:=hsS) (hle:=Nat.le_add_right _ _) (hc:=hcx)) ?_|refine WO.does (zO rfl rfl (show ((x.e:Nat):Int)=(ep:Int) by omega)) ?_|refine WO.does (zR rfl rfl (show ¬ ((x.d:Nat):Int)=(y.1.d:Int) by omega)) ?_|refine WO.does (zi rfl rfl hadd2) ?_|refine Tj ?_|intro _|refine Tc ?_|exact Tz)
    exact WX.metI (i+1) (hs:=⟨hgo hb,hme⟩)
  ·have hb:swB ep y.1.d x=false:=by unfold swB;rw[decide_eq_false he,Bool.false_and]
   repeat (first|refine Tk ?_|intro _|exact Tz)
   refine WC.dT rfl Om ?_
   repeat (first|refine WO.does (zb (o':=oS+i*3) rfl rfl hlt rfl) ?_|refine WO.does (zn (vs:=swC x) (hs:=hsS) (hle:=Nat.le_add_right _ _) (hc:=hcx)) ?_|refine WO.does (zR rfl rfl (show ¬ ((x.e:Nat):Int)=(ep:Int) by omega)) ?_|refine WO.does (zi rfl rfl hadd2) ?_|refine Tj ?_|intro _|refine Tc ?_|exact Tz)
   exact WX.metI (i+1) (hs:=⟨hgo hb,hme⟩)
 ·have hi2:i=SH.length:=by omega
  subst hi2;rw[List.take_length] at hno;have hany:SH.any (swB ep y.1.d)=false:=List.any_eq_false.2 (fun x hx=>by rw[hno x hx];simp);rw[hany]
  repeat (first|refine Tk ?_|intro _|exact Tz)
  refine WC.dF rfl Om ?_
  repeat (first|refine Tk ?_|intro _|exact Tz)
  exact WX.ret2 rfl Rv.t Rv.t [] Lle.nil ⟨fun _=>0,rfl,rfl,trivial⟩
end
def ckY (p q g h F m:Nat) (N:LP) (ep:Nat) (y:Dd) (x:Od):Bool:=ahS p q g h (F:Int) (m:Int) N ep y.d y.Y x.e x.d x.n x.z x.c x.s
structure Nw where
 g:Nat
 c:Nat
 xs:List Nat
def nwC (z:Nw):List Value:=[AQ z.g z.xs.length z.c]
theorem kG (z:Nw):(nwC z).length=1:=rfl
def nwE (z:Nw):Ent:=⟨z.g,24,z.xs.flatMap zc++mkz (z.c - z.xs.length) (zc 0)⟩
def nwB (Z:List Nw):List Ent:=Z.reverse.map nwE
theorem aO (Z:List Nw) (z:Nw):nwB (Z++[z])=nwE z::nwB Z:=by unfold nwB;rw[List.reverse_append];rfl
abbrev afj (g c:Nat) (Z:List Nw) (n:Nat):List Ent:=rwL 46 g (Z.flatMap nwC) (mkz (c - n) [.slice none 0 0]) n
theorem aer (c:Nat) (p:Option Addr) (n:Nat) (hc:n≤c):Fn Tryz.prog 36 [.slice p n c] Tr (Is (.slice p n n)):=by
 refine Fn.enter Tryz.func36 rfl rfl rfl ?_;intro w hw
 repeat (first|refine WO.does (vz rfl rfl rfl hc) ?_|refine Tj ?_|intro _|refine Tc ?_|exact Tz)
 done
def wB (p q g h F m:Nat) (N:LP) (ep:Nat) (ls:List Od) (SH:List Sw) (y:Dd):Bool:=SH.any (swB ep y.d) || decide (F+m≤(acu (ckY p q g h F m N ep y) ls).length)
structure WyH (p q g h F m:Nat) (N:LP) (ep:Nat) (ls:List Od) (SH:List Sw) (y:Dd) (l:LN):Prop where
 fit:fG y
 num:af0 y
 d:y.d<256
 ck:ckE p q g h (F:Int) (m:Int) N ep y.d y.V y.Y y.P y.c y.s=none
 ll:l.length=F+m
 sh:∀ x∈SH,swB ep y.d x=true→aee p q g h (F:Int) (m:Int) N y.V x.P=true∧mz p q g h (F:Int) (m:Int) N x.P=true∧osL p q h x.P m=osL p q h l m
 op:F+m≤(acu (ckY p q g h F m N ep y) ls).length→OpL p q h N l ep y.d (acu (ckY p q g h F m N ep y) ls)∧(acu (ckY p q g h F m N ep y) ls).length≤N.length
def ah0 (p q h m n:Nat) (lP:Nat→List Nat):Bool→Value→List Ent→Prop
 | true=>fun v L=>∃ gO cO Z,v=.tuple #[AQ gO n n,.int .i64 0]∧L=afj gO cO Z n++nwB Z∧Z.map Nw.xs=(List.range n).map (fun i=>osL p q h (lP i) m)∧(∀ z∈Z,z.c=m)
 | false=>fun v _=>v=.tuple #[.slice none 0 0,.int .i64 7]
theorem ve {α:Type} {f:α→List Value} {k:Nat} {xs:List α} {i:Nat} {x:α} (h1:∀ x∈xs,(f x).length=k) (h:xs[i]?=some x):cut (xs.flatMap f) (i*k) k=f x:=by
 have:=ul (r:=[]) h1 h;rwa [List.append_nil] at this
theorem oR {ep:Nat} {T:List (Dd × Dk)} {o i:Nat} {y:Dd × Dk} (h:T[i]?=some y):cut (T.flatMap (ddC ep)) (o+i*13 - o) 13=ddC ep y:=by
 rw[Nat.add_sub_cancel_left];exact zL (f:=ddC ep) (k:=13) (fun _=>rfl) h
theorem nx {p q h m:Nat} {l:LN}:(osL p q h l m).length=m:=by simp[osL]
section
variable (p q g h F m:Nat) (pt:Option Addr) (c:Nat) (N:LP) (ep:Nat) (pD:Option Addr) (cD:Nat) (T:List (Dd × Dk)) (pO:Option Addr) (cO:Nat) (ls:List Od) (pS:Option Addr) (cS:Nat) (SH:List Sw) (pH:Option Addr) (cH:Nat) (HL:List (List Nat))
theorem rI (lP:Nat→List Nat) (b:Bool) (hp:p<ze) (hq:q<ze) (hg:g<ze) (hh:h<ze) (hN:zZ N) (hNl:N.length≤100) (hs:y5 p q g h (F:Int) (m:Int) N=true) (hF:F≤10) (hm:m≤10) (hep:ep<18446744073709551616)
  (hSl:SH.length≤1000) (hSn:∀ x∈SH,(∀ a∈x.P,a<ze)∧x.P.length≤100)
  (hT0:0<T.length) (hTl:T.length≤1000) (hHL:HL=T.map fun y=>ddH ep y.1) (hW:∀ i y,T[i]?=some y→WyH p q g h F m N ep ls SH y.1 (lP i))
  (hb:∀ i y,T[i]?=some y→(b=true∨i=0)→wB p q g h F m N ep ls SH y.1=b)
  (hOpn:∀ (i:Nat) (y:Dd × Dk) (bD oD e2 d2 s2:Nat),T[i]?=some y→Fn Tryz.prog 91 [Sx.pt e2,Sx.pt d2,Sx.pt s2] (WyR p q g h F m pt c N ep y (some ⟨bD,oD,none⟩) cD T pO cO ls pS cS SH e2 d2 s2) (Wy (decide (F+m≤(acu (ckY p q g h F m N ep y.1) ls).length)) m (osL p q h (lP i) m))) :
  Fn Tryz.prog 11 [stV p q g h (F:Int) (m:Int) (.slice pt N.length c),.slice pH T.length cH,evV (.slice pD T.length cD) (.slice pO ls.length cO) (.slice pS SH.length cS)]
   (fun w=>RdF ya (.slice pt N.length c) N w∧EvR ep pD cD T pO cO ls pS cS SH w∧RdF byC (.slice pH T.length cH) HL w∧uY w) (ah0 p q h m T.length lP b):=by
 have hS:=yh p q g h (F:Int) (m:Int) pt c N hp hq hg hh hN Om Om Om Om Om;rw[hs] at hS;refine Fn.enter Tryz.func11 rfl rfl rfl ?_;intro w hw;obtain⟨w1,w2,w3,w4⟩:=hw
 repeat (first|refine WO.does (zA rfl rfl rfl) ?_|refine Tj ?_|intro _|refine WO.acallR (hc:=hS) (hR:=fun wx hm=>(w1.mod hm.mod).rdK) (k:=?_)|refine Tc ?_|exact Tz)
 rename_i gS gE
 refine WC.loopI (σ:=Nat) (fun i=>i≤T.length) (fun i=>[(1,.slice pH T.length cH),(3,Sx.pt gS),(5,Sx.pt gE),(6,.slice none 0 0),(7,.int .i64 0),(29,.slice pD T.length cD),(30,.int .i64 (T.length:Int)),(31,.int .i64 (i:Int))])
  (fun _=>[⟨gE,59,evC (.slice pD T.length cD) (.slice pO ls.length cO) (.slice pS SH.length cS)⟩,⟨gS,36,stC p q g h (F:Int) (m:Int) (.slice pt N.length c)⟩]) (fun i=>T.length - i) 0 (fun i hi=>?_) (Nat.zero_le _)
 try dsimp only at hi ⊢
 by_cases hlt:i<T.length
 ·obtain⟨y,hy⟩ : ∃ y,T[i]?=some y:=⟨_,List.getElem?_eq_getElem hlt⟩;have hym:=List.mem_of_getElem? hy;have hH:HL[i]?=some (ddH ep y.1):=by rw[hHL,List.getElem?_map,hy];rfl
  have k:=hW i y hy;obtain⟨bD,oD,rfl,_,hsD⟩:=id w2.d |>.get hy
  obtain⟨bH,oH,rfl,_,hsH⟩:=id w3 |>.get hH
  have hcH:cut (HL.flatMap byC) (oH+i*32 - oH) 32=byC (ddH ep y.1):=by
   rw[Nat.add_sub_cancel_left];exact ve (k:=32) (fun x hx=>by
    rw[hHL] at hx;obtain⟨z,_,rfl⟩:=List.mem_map.1 hx;rw[zd,vh]) hH
  have hadd2:IntKind.i64.wrap ((i:Int)+1)=((i+1:Nat):Int):=zl Om Om Om;have hHx:=pM ep y.1.d y.1.c y.1.s (some ⟨y.2.v,0,none⟩) (some ⟨y.2.y,0,none⟩) (some ⟨y.2.p,0,none⟩) y.1.V.length y.1.Y.length y.1.P.length y.1.V y.1.Y y.1.P k.d k.fit.v k.fit.y k.fit.p (by have:=k.fit.vl;omega) (by have:=k.fit.yl;omega) (by have:=k.fit.pl;omega)
  repeat (first|refine Tk ?_|intro _|exact Tz)
  refine WC.dT rfl Om ?_
  repeat (first|refine WO.does (zb (o':=oD+i*13) rfl rfl hlt rfl) ?_|refine WO.does (zn (vs:=ddC ep y) (hs:=hsD) (hle:=Nat.le_add_right _ _) (hc:=oR hy)) ?_|refine Tj ?_|intro _|refine Tc ?_|exact Tz)
  refine WC.adraw 7 (k:=?_);refine DQ.does (fun s _=>zw (vs:=ddC ep y) (hc:=rfl)) Dp.const ?_;refine DQ.acallR (hc:=hHx) (hR:=fun wx hm=>⟨(w2.a y hym).v.mod hm.mod,(w2.a y hym).y.mod hm.mod,(w2.a y hym).p.mod hm.mod⟩) (k:=?_)
  iterate 2 refine Dx ?_
  refine DQ.does (fun s _=>zb (o':=oH+i*32) rfl rfl hlt rfl) Dp.const ?_;refine DQ.does (fun s _=>zn (vs:=byC (ddH ep y.1)) (hs:=hsH) (hle:=Nat.le_add_right _ _) (hc:=hcH) (hl:=by rw[zd,vh])) Dp.const ?_;refine DQ.does (fun s _=>ux (qR ep y.1) (qR ep y.1) (vh ep y.1) (vh ep y.1) rfl rfl (show (!decide (ddH ep y.1=ddH ep y.1))=false by simp)) Dp.const ?_;refine DQ.anil (k:=?_);intro sx _
  repeat (first|refine WO.does (zi rfl rfl hadd2) ?_|refine Tj ?_|intro _|refine Tc ?_|exact Tz)
  exact WX.metI (i+1) (hs:=⟨by show i+1≤T.length;omega,by show T.length - (i+1)<T.length - i;omega⟩)
 have hi2:i=T.length:=by omega
 clear hlt hi hHL w3;subst hi2
 repeat (first|refine Tk ?_|intro _|exact Tz)
 refine WC.dF rfl Om ?_
 repeat (first|refine Tk ?_|intro _|exact Tz)
 refine WC.loopI (σ:=Nat) (fun i=>i≤T.length) (fun i=>[(3,Sx.pt gS),(5,Sx.pt gE),(6,.slice none 0 0),(7,.int .i64 0),(45,.slice pD T.length cD),(46,.int .i64 (T.length:Int)),(47,.int .i64 (i:Int))])
  (fun _=>[⟨gE,59,evC (.slice pD T.length cD) (.slice pO ls.length cO) (.slice pS SH.length cS)⟩,⟨gS,36,stC p q g h (F:Int) (m:Int) (.slice pt N.length c)⟩]) (fun i=>T.length - i) 0 (fun i hi=>?_) (Nat.zero_le _)
 try dsimp only at hi ⊢
 by_cases hlt:i<T.length
 ·obtain⟨y,hy⟩ : ∃ y,T[i]?=some y:=⟨_,List.getElem?_eq_getElem hlt⟩;have hym:=List.mem_of_getElem? hy;have k:=hW i y hy;obtain⟨bD,oD,rfl,_,hsD⟩:=id w2.d |>.get hy
  have hadd2:IntKind.i64.wrap ((i:Int)+1)=((i+1:Nat):Int):=zl Om Om Om;have hCk:=rO p q g h (F:Int) (m:Int) pt (some ⟨y.2.v,0,none⟩) (some ⟨y.2.y,0,none⟩) (some ⟨y.2.p,0,none⟩) c y.1.V.length y.1.Y.length y.1.P.length N ep y.1.d y.1.V y.1.Y y.1.P y.1.c y.1.s hp hq hg hh hN hNl Om Om Om Om k.d k.num.v k.num.y k.num.p k.fit.vl k.fit.yl k.fit.pl k.num.c k.num.s;rw[k.ck] at hCk
  repeat (first|refine Tk ?_|intro _|exact Tz)
  refine WC.dT rfl Om ?_
  repeat (first|refine WO.does (zb (o':=oD+i*13) rfl rfl hlt rfl) ?_|refine WO.does (zn (vs:=ddC ep y) (hs:=hsD) (hle:=Nat.le_add_right _ _) (hc:=oR hy)) ?_|refine WO.does (zw (vs:=ddC ep y) (hc:=rfl)) ?_|refine WO.acallR (hc:=hCk) (hR:=fun wx hm=>⟨⟨w1.mod hm.mod,(w2.a y hym).v.mod hm.mod,(w2.a y hym).y.mod hm.mod,(w2.a y hym).p.mod hm.mod⟩,w4.mod hm.mod Sm⟩) (k:=?_)|refine WO.does (zA rfl rfl Dtt) ?_|refine WO.does (zi rfl rfl hadd2) ?_|refine Tj ?_|intro _|refine Tc ?_|exact Tz)
  exact WX.metI (i+1) (hs:=⟨by show i+1≤T.length;omega,by show T.length - (i+1)<T.length - i;omega⟩)
 have hi2:i=T.length:=by omega
 clear hlt hi w4;subst hi2
 repeat (first|refine Tk ?_|intro _|exact Tz)
 refine WC.dF rfl Om ?_
 repeat (first|refine Tk ?_|intro _|exact Tz)
 refine WC.loopI (σ:=Nat × Nat × Nat × List Nw) (fun s=>s.1≤T.length∧(0<s.1→b=true)∧s.2.2.2.map Nw.xs=(List.range s.1).map (fun i=>osL p q h (lP i) m)∧(∀ z∈s.2.2.2,z.c=m)∧(0<s.1→s.1≤s.2.2.1∧s.2.2.1<9223372036854775808)) (fun s=>[(3,Sx.pt gS),(5,Sx.pt gE),(6,agV s.2.1 s.2.2.1 s.1 s.1),(7,.int .i64 0),(59,.slice pD T.length cD),(60,.int .i64 (T.length:Int)),(61,.int .i64 (s.1:Int))])
  (fun s=>⟨gE,59,evC (.slice pD T.length cD) (.slice pO ls.length cO) (.slice pS SH.length cS)⟩::⟨gS,36,stC p q g h (F:Int) (m:Int) (.slice pt N.length c)⟩::(afj s.2.1 s.2.2.1 s.2.2.2 s.1++nwB s.2.2.2)) (fun s=>T.length - s.1) (0,0,0,[]) (fun s hi=>?_) ⟨Nat.zero_le _,fun h=>absurd h Dtt,rfl,by simp,fun h=>absurd h Dtt⟩
 obtain⟨i,gO,cO',Z⟩:=s;obtain⟨hi,hib,hZ,hZm,hr⟩:=hi
 try dsimp only at hi hib hZ hZm hr ⊢
 have hZl:Z.length=i:=by have:=congrArg List.length hZ;simpa using this
 have hBl:(Z.flatMap nwC).length=i*1:=by rw[zF kG,hZl]
 by_cases hlt:i<T.length
 ·obtain⟨y,hy⟩ : ∃ y,T[i]?=some y:=⟨_,List.getElem?_eq_getElem hlt⟩;have hym:=List.mem_of_getElem? hy;have k:=hW i y hy;have hbi:=hb i y hy (by rcases Nat.eq_zero_or_pos i with h|h;exact .inr h;exact .inl (hib h));obtain⟨bD,oD,rfl,_,hsD⟩:=id w2.d |>.get hy
  have hadd2:IntKind.i64.wrap ((i:Int)+1)=((i+1:Nat):Int):=zl Om Om Om;have hM1:=bm p q g h F m pt c N ep y (.slice (some ⟨bD,oD,none⟩) T.length cD) (.slice pO ls.length cO) (.slice pS SH.length cS);have hM2:=iP p q g h F m pt c N ep y (.slice (some ⟨bD,oD,none⟩) T.length cD) (.slice pO ls.length cO) (.slice pS SH.length cS)
  have hF1:=fun (gR e1 d1 s1 e2 d2 s2:Nat)=>aaS (R:=fun w=>WyR p q g h F m pt c N ep y (some ⟨bD,oD,none⟩) cD T pO cO ls pS cS SH e1 d1 s1 w∧WyR p q g h F m pt c N ep y (some ⟨bD,oD,none⟩) cD T pO cO ls pS cS SH e2 d2 s2 w) (fun w w' hk hm=>⟨hk.1.mod (hm:=hm),hk.2.mod (hm:=hm)⟩) (f1:=88) (f2:=91) [Sx.pt e1,Sx.pt d1,Sx.pt s1] [Sx.pt e2,Sx.pt d2,Sx.pt s2] _ _ m (osL p q h (lP i) m)
   (Fn.weak (aak p q g h F m pt c N ep y (some ⟨bD,oD,none⟩) cD T pO cO ls pS cS SH e1 d1 s1 (osL p q h (lP i) m) hp hq hg hh hN hNl hF hm k.fit k.num.v hSl hSn k.sh) (fun _ h=>h.1) (fun _ _ h=>h))
   (Fn.weak (hOpn i y bD oD e2 d2 s2 hy) (fun _ h=>h.2) (fun _ _ h=>h)) gR 2
  rw[show (SH.any (swB ep y.1.d) || decide (F+m≤(acu (ckY p q g h F m N ep y.1) ls).length))=b from hbi] at hF1
  repeat (first|refine Tk ?_|intro _|exact Tz)
  refine WC.dT rfl Om ?_
  repeat (first|refine WO.does (zb (o':=oD+i*13) rfl rfl hlt rfl) ?_|refine WO.does (zn (vs:=ddC ep y) (hs:=hsD) (hle:=Nat.le_add_right _ _) (hc:=oR hy)) ?_|refine Tj ?_|intro _|refine Tc ?_|exact Tz)
  refine WC.adraw 15 (k:=?_);refine DQ.does (fun s _=>zw (vs:=stC p q g h (F:Int) (m:Int) (.slice pt N.length c)) (hc:=rfl)) Dp.const ?_;refine DQ.does (fun s _=>zw (vs:=ddC ep y) (hc:=rfl)) Dp.const ?_;refine DQ.does (fun s _=>zw (vs:=evC (.slice (some ⟨bD,oD,none⟩) T.length cD) (.slice pO ls.length cO) (.slice pS SH.length cS)) (hc:=rfl)) Dp.const ?_;refine DQ.acallX (hc:=hM1) (hR:=fun _ _=>trivial) (k:=?_);refine DQ.does (fun s _=>zw (vs:=stC p q g h (F:Int) (m:Int) (.slice pt N.length c)) (hc:=rfl)) Dp.const ?_;refine DQ.does (fun s _=>zw (vs:=ddC ep y) (hc:=rfl)) Dp.const ?_;refine DQ.does (fun s _=>zw (vs:=evC (.slice (some ⟨bD,oD,none⟩) T.length cD) (.slice pO ls.length cO) (.slice pS SH.length cS)) (hc:=rfl)) Dp.const ?_;refine DQ.acallX (hc:=hM2) (hR:=fun _ _=>trivial) (k:=?_);refine DQ.makes (vf:=fun _ g=>AQ g 2 2) (t:=_) (cs:=fun s=>[fV (88,[Sx.pt (s 3 2),Sx.pt (s 3 1),Sx.pt (s 3 0)]),fV (91,[Sx.pt (s 7 2),Sx.pt (s 7 1),Sx.pt (s 7 0)])]) (fun s _=>zh rfl Dtt rfl) Dp.const (by intro s s' h;dsimp only;rw[h 3 Dkk,h 7 Dkk]) ?_
  refine DQ.callsE (fs:=fun _=>[]) (cs:=fun _=>[]) (vf:=fun _ x=>wyV b m (x 0)) (Nf:=fun _ x=>wyN b (osL p q h (lP i) m) (x 0)) (S:=fun _ _=>True)
   (fun s=>[⟨s 8 0,_,[fV (88,[Sx.pt (s 3 2),Sx.pt (s 3 1),Sx.pt (s 3 0)]),fV (91,[Sx.pt (s 7 2),Sx.pt (s 7 1),Sx.pt (s 7 0)])]⟩,⟨s 7 2,59,evC (.slice (some ⟨bD,oD,none⟩) T.length cD) (.slice pO ls.length cO) (.slice pS SH.length cS)⟩,⟨s 7 1,51,ddC ep y⟩,⟨s 7 0,36,stC p q g h (F:Int) (m:Int) (.slice pt N.length c)⟩,⟨s 3 2,59,evC (.slice (some ⟨bD,oD,none⟩) T.length cD) (.slice pO ls.length cO) (.slice pS SH.length cS)⟩,⟨s 3 1,51,ddC ep y⟩,⟨s 3 0,36,stC p q g h (F:Int) (m:Int) (.slice pt N.length c)⟩])
   (fun s=>.cons 8 (.head _) Dkk (.cons 7 Mh.a Dkk (.cons 7 Mh.a Dkk (.cons 7 Mh.a Dkk (.cons 3 Mh.a Dkk (.cons 3 Mh.a Dkk (.cons 3 Mh.a Dkk .nil)))))))
   (fun _=>⟨fun _=>0,trivial⟩) (fun s _=>hF1 (s 8 0) (s 3 2) (s 3 1) (s 3 0) (s 7 2) (s 7 1) (s 7 0)) (fun _=>rfl) (fun _=>rfl) (fun _=>rfl)
   (fun s _ wx hm=>⟨Hs.seg Hs.here hm,⟨⟨Hs.seg Hs.a hm,Hs.seg Hs.a hm,Hs.seg Hs.a hm,w1.mod hm.mod,w2.mod hm.mod,(w2.a y hym).mod hm.mod⟩,⟨Hs.seg Hs.a hm,Hs.seg Hs.a hm,Hs.seg Hs.a hm,w1.mod hm.mod,w2.mod hm.mod,(w2.a y hym).mod hm.mod⟩⟩⟩) Dp.const Dp.const Dp.const ?_
  iterate 5 refine Dx ?_
  refine DQ.anil (k:=?_);intro sx _;generalize sx 9 0=gw
  try simp only[List.map_cons,List.map_nil,List.cons_append,List.nil_append]
  cases b with
  | false =>
   dsimp only[wy0,wyE]
   repeat (first|refine WO.does (yR rfl rfl Dtt) ?_|refine Tj ?_|intro _|refine Tc ?_|exact Tz)
   done
  | true =>
   dsimp only[wy0,wyE,wyN];simp only[List.map_cons,List.map_nil,List.cons_append,List.nil_append]
   repeat (first|refine WO.does (zA rfl rfl Dtt) ?_|refine Tj ?_|intro _|refine Tc ?_|exact Tz)
   refine WO.makes (zh (cs:=[AQ gw m m]) rfl Dtt rfl) ?_;intro gb;have hB2:Z.flatMap nwC++[AQ gw m m]=(Z++[(⟨gw,m,osL p q h (lP i) m⟩ : Nw)]).flatMap nwC:=by rw[List.flatMap_append];simp[nwC,nx]
   have hE2:nwE ⟨gw,m,osL p q h (lP i) m⟩=⟨gw,24,(osL p q h (lP i) m).flatMap zc⟩:=by unfold nwE;rw[nx,Nat.sub_self];simp[mkz]
   refine WO.appR (z:=[.slice none 0 0]) (g:=gO) (c:=cO') (n:=i) (m:=1) (l:=i+1) (B:=Z.flatMap nwC) (ys:=[AQ gw m m]) (L1:=[_,_,_,_,_,_,_,_,_,_,_,_]) (L2:=nwB Z) rfl rfl rfl rfl hBl hr (Rds.own (m:=1) Hs.here rfl) rfl rfl Dtt rfl Om Om Dtt Dtt (fun g1 c1 a1 a2=>?_);rw[hB2];simp only[List.cons_append,List.nil_append]
   repeat (first|refine WO.does (zi rfl rfl hadd2) ?_|refine Tj ?_|intro _|refine Tc ?_|exact Tz)
   exact WX.metI (i+1,g1,c1,Z++[⟨gw,m,osL p q h (lP i) m⟩]) (hl:=by simp only[aO,hE2,rwL,List.cons_append,List.nil_append];repeat (first|exact Lle.left'|refine Lle.c ?_|refine Lle.skp ?_)) (hs:=⟨⟨by show i+1≤T.length;omega,by simp,by show (Z++[_]).map Nw.xs=_;rw[List.map_append,hZ,yD];rfl,fun z hz=>by
    rcases List.mem_append.1 hz with hz|hz
    ·exact hZm z hz
    ·have:z=_:=List.mem_singleton.1 hz;rw[this],fun _=>⟨a2,a1⟩⟩,by show T.length - (i+1)<T.length - i;omega⟩)
 ·have hi3:i=T.length:=by omega
  have hbt:=hib Om;subst hbt;rw[← hi3];obtain⟨i',rfl⟩ : ∃ i',i=i' + 1:=⟨i - 1,by omega⟩;have hCl:=aer cO' (some ⟨gO,0,none⟩) (i' + 1) (hr Om).1;dsimp only[agV,rwL]
  repeat (first|refine Tk ?_|intro _|exact Tz)
  refine WC.dF rfl Om ?_
  repeat (first|refine Tj ?_|intro _|refine WO.acall (hc:=hCl) (k:=?_)|refine Tc ?_|exact Tz)
  exact WX.ret2 rfl Rv.t Rv.t (afj gO cO' Z (i' + 1)++nwB Z) (by simp only[rwL,List.cons_append,List.nil_append];repeat (first|exact Lle.left'|refine Lle.c ?_|refine Lle.skp ?_)) ⟨gO,cO',Z,rfl,rfl,hZ,hZm⟩
end
section
variable (p q g h F m:Nat) (pt:Option Addr) (c:Nat) (N:LP) (ep:Nat) (y:Dd × Dk) (pD:Option Addr) (cD:Nat) (T:List (Dd × Dk)) (pO:Option Addr) (cO:Nat) (pS:Option Addr) (cS:Nat) (SH:List Sw) (gE gD gS:Nat) (os:LN)
theorem qS (hF:F≤10) (hm:m≤10) (hm0:0<m) :
  Fn Tryz.prog 91 [Sx.pt gE,Sx.pt gD,Sx.pt gS] (WyR p q g h F m pt c N ep y pD cD T pO cO [] pS cS SH gE gD gS) (Wy false m os):=by
 have hFm:IntKind.i64.wrap ((F:Int)+(m:Int))=((F+m:Nat):Int):=zl Om Om Om;refine Fn.enter Tryz.func91 rfl rfl rfl ?_;intro w hw;obtain⟨w1,w2,w3,w4,w5,w6⟩:=hw
 repeat (first|refine Tk ?_|intro _|exact Tz)
 refine WC.loopI (σ:=Unit) (fun _=>True) (fun _=>[(0,Sx.pt gE),(1,Sx.pt gD),(2,Sx.pt gS),(5,.slice none 0 0),(10,.slice pO 0 cO),(11,.int .i64 ((0:Nat):Int)),(12,.int .i64 ((0:Nat):Int))])
  (fun _=>[]) (fun _=>0) () (fun _ _=>?_) trivial
 try dsimp only
 repeat (first|refine WO.does (zm (v:=.int .i64 (F:Int)) (hs:=w3) (hle:=Nat.zero_le _) (hc:=rfl)) ?_|refine WO.does (zm (v:=.int .i64 (m:Int)) (hs:=w3) (hle:=Nat.zero_le _) (hc:=rfl)) ?_|refine WO.does (zi rfl rfl hFm) ?_|refine WO.does (vy rfl rfl Om) ?_|refine Tj ?_|intro _|refine Tc ?_|exact Tz)
 exact WX.ret2 rfl Rv.t Rv.t [] Lle.nil ⟨fun _=>0,rfl,rfl,trivial⟩
end
end Sx
end
end Go.Proofs.YtiaibpcaloigkaaGreatDoor
