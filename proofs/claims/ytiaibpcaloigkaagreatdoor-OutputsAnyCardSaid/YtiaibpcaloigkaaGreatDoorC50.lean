/- Part 50 of the proof. -/
import Derived.Test.YtiaibpcaloigkaaGreatDoorC49
set_option linter.unusedSimpArgs false
set_option linter.unusedVariables false
set_option maxHeartbeats 8000000
namespace Go.Proofs.YtiaibpcaloigkaaGreatDoor
section
open Go Go.RowKit Go.BigFrame
namespace Sx
attribute [local irreducible] DQ WC WO WX wd
structure Nw where
 g:Nat
 c:Nat
 xs:List Nat
def nwC (z:Nw):List Value:=[AX z.g z.xs.length z.c]
theorem sc (z:Nw):(nwC z).length=1:=rfl
def nwE (z:Nw):Ent:=⟨z.g,24,z.xs.flatMap zc++mkz (z.c - z.xs.length) (zc 0)⟩
def nwB (Z:List Nw):List Ent:=Z.reverse.map nwE
theorem acC (Z:List Nw) (z:Nw):nwB (Z++[z])=nwE z::nwB Z:=by unfold nwB;rw[List.reverse_append];rfl
abbrev afH (g c:Nat) (Z:List Nw) (n:Nat):List Ent:=rwL 46 g (Z.flatMap nwC) (mkz (c - n) [.slice none 0 0]) n
theorem aeQ (c:Nat) (p:Option Addr) (n:Nat) (hc:n≤c):Fn Tryz.prog 36 [.slice p n c] Tr (Is (.slice p n n)):=by
 refine Fn.enter Tryz.func36 rfl rfl rfl ?_;intro w hw
 repeat (first|refine WO.does (mM rfl rfl rfl hc) ?_|refine Tj ?_|intro _|refine Tc ?_|exact Tz)
 done
def wB (p q g h F m:Nat) (N:LP) (ep:Nat) (ls:List Od) (SH:List Sw) (y:Dd):Bool:=SH.any (swB ep y.d) || decide (F+m≤(tp (ckY p q g h F m N ep y) ls).length)
structure WyH (p q g h F m:Nat) (N:LP) (ep:Nat) (ls:List Od) (SH:List Sw) (y:Dd) (l:LN):Prop where
 fit:afl y
 num:af1 y
 d:y.d<256
 ck:ckE p q g h (F:Int) (m:Int) N ep y.d y.V y.Y y.P y.c y.s=none
 ll:l.length=F+m
 sh:∀ x∈SH,swB ep y.d x=true→afc p q g h (F:Int) (m:Int) N y.V x.P=true∧mq p q g h (F:Int) (m:Int) N x.P=true∧osL p q h x.P m=osL p q h l m
 op:F+m≤(tp (ckY p q g h F m N ep y) ls).length→OpL p q h N l ep y.d (tp (ckY p q g h F m N ep y) ls)∧(tp (ckY p q g h F m N ep y) ls).length≤N.length
def ahY (p q h m n:Nat) (lP:Nat→List Nat):Bool→Value→List Ent→Prop
 | true=>fun v L=>∃ gO cO Z,v=.tuple #[AX gO n n,.int .i64 0]∧L=afH gO cO Z n++nwB Z∧Z.map Nw.xs=(List.range n).map (fun i=>osL p q h (lP i) m)∧(∀ z∈Z,z.c=m)
 | false=>fun v _=>v=.tuple #[.slice none 0 0,.int .i64 7]
theorem mO {α:Type} {f:α→List Value} {k:Nat} {xs:List α} {i:Nat} {x:α} (h1:∀ x∈xs,(f x).length=k) (h:xs[i]?=some x):cut (xs.flatMap f) (i*k) k=f x:=by
 have:=tT (r:=[]) h1 h;rwa [List.append_nil] at this
theorem nz {ep:Nat} {T:List (Dd × Dk)} {o i:Nat} {y:Dd × Dk} (h:T[i]?=some y):cut (T.flatMap (ddC ep)) (o+i*13 - o) 13=ddC ep y:=by
 rw[Nat.add_sub_cancel_left];exact zB (f:=ddC ep) (k:=13) (fun _=>rfl) h
theorem ju {p q h m:Nat} {l:LN}:(osL p q h l m).length=m:=by simp[osL]
section
variable (p q g h F m:Nat) (pt:Option Addr) (c:Nat) (N:LP) (ep:Nat) (pD:Option Addr) (cD:Nat) (T:List (Dd × Dk)) (pO:Option Addr) (cO:Nat) (ls:List Od) (pS:Option Addr) (cS:Nat) (SH:List Sw) (pH:Option Addr) (cH:Nat) (HL:List (List Nat))
theorem jp (f sec:Int) (sH sD sO sS:Value) (hp:p<zd) (hq:q<zd) (hg:g<zd) (hh:h<zd) (hN:zV N) (hNl:N.length≤100)
  (hf1 : -9223372036854775808≤f) (hf2:f≤9223372036854775807) (hs1 : -9223372036854775808≤sec) (hs2:sec≤9223372036854775807) (hs:yW p q g h f sec N=false) :
  Fn Tryz.prog 11 [stV p q g h f sec (.slice pt N.length c),sH,evV sD sO sS] (RdF yx (.slice pt N.length c) N) (Is (.tuple #[.slice none 0 0,.int .i64 1])):=by
 have hS:=z8 p q g h f sec pt c N hp hq hg hh hN Om hf1 hf2 hs1 hs2;rw[hs] at hS;refine Fn.enter Tryz.func11 rfl rfl rfl ?_;intro w hw
 repeat (first|refine Tj ?_|intro _|refine WO.acallR (hc:=hS) (hR:=fun wx hm=>(hw.mod hm.mod).rdK) (k:=?_)|refine Tc ?_|exact Tz)
 done
theorem jm (lP:Nat→List Nat) (b:Bool) (hp:p<zd) (hq:q<zd) (hg:g<zd) (hh:h<zd) (hN:zV N) (hNl:N.length≤100) (hs:yW p q g h (F:Int) (m:Int) N=true) (hF:F≤10) (hm:m≤10) (hep:ep<18446744073709551616)
  (hSl:SH.length≤1000) (hSn:∀ x∈SH,(∀ a∈x.P,a<zd)∧x.P.length≤100)
  (hT0:0<T.length) (hTl:T.length≤1000) (hHL:HL=T.map fun y=>ddH ep y.1) (hW:∀ i y,T[i]?=some y→WyH p q g h F m N ep ls SH y.1 (lP i))
  (hb:∀ i y,T[i]?=some y→(b=true∨i=0)→wB p q g h F m N ep ls SH y.1=b)
  (hOpn:∀ (i:Nat) (y:Dd × Dk) (bD oD e2 d2 s2:Nat),T[i]?=some y→Fn Tryz.prog 91 [Sx.pt e2,Sx.pt d2,Sx.pt s2] (WyR p q g h F m pt c N ep y (some ⟨bD,oD,none⟩) cD T pO cO ls pS cS SH e2 d2 s2) (Wy (decide (F+m≤(tp (ckY p q g h F m N ep y.1) ls).length)) m (osL p q h (lP i) m))) :
  Fn Tryz.prog 11 [stV p q g h (F:Int) (m:Int) (.slice pt N.length c),.slice pH T.length cH,evV (.slice pD T.length cD) (.slice pO ls.length cO) (.slice pS SH.length cS)]
   (fun w=>RdF yx (.slice pt N.length c) N w∧EvR ep pD cD T pO cO ls pS cS SH w∧RdF byC (.slice pH T.length cH) HL w∧o8 w) (ahY p q h m T.length lP b):=by
 have hS:=z8 p q g h (F:Int) (m:Int) pt c N hp hq hg hh hN Om Om Om Om Om;rw[hs] at hS;refine Fn.enter Tryz.func11 rfl rfl rfl ?_;intro w hw;obtain⟨w1,w2,w3,w4⟩:=hw
 repeat (first|refine WO.does (zt rfl rfl rfl) ?_|refine Tj ?_|intro _|refine WO.acallR (hc:=hS) (hR:=fun wx hm=>(w1.mod hm.mod).rdK) (k:=?_)|refine Tc ?_|exact Tz)
 rename_i gS gE
 refine WC.loopI (σ:=Nat) (fun i=>i≤T.length) (fun i=>[(1,.slice pH T.length cH),(3,Sx.pt gS),(5,Sx.pt gE),(6,.slice none 0 0),(7,.int .i64 0),(29,.slice pD T.length cD),(30,.int .i64 (T.length:Int)),(31,.int .i64 (i:Int))])
  (fun _=>[⟨gE,59,evC (.slice pD T.length cD) (.slice pO ls.length cO) (.slice pS SH.length cS)⟩,⟨gS,36,stC p q g h (F:Int) (m:Int) (.slice pt N.length c)⟩]) (fun i=>T.length - i) 0 (fun i hi=>?_) (Nat.zero_le _)
 try dsimp only at hi ⊢
 by_cases hlt:i<T.length
 ·obtain⟨y,hy⟩ : ∃ y,T[i]?=some y:=⟨_,List.getElem?_eq_getElem hlt⟩;have hym:=List.mem_of_getElem? hy;have hH:HL[i]?=some (ddH ep y.1):=by rw[hHL,List.getElem?_map,hy];rfl
  have k:=hW i y hy;obtain⟨bD,oD,rfl,_,hsD⟩:=id w2.d |>.get hy
  obtain⟨bH,oH,rfl,_,hsH⟩:=id w3 |>.get hH
  have hcH:cut (HL.flatMap byC) (oH+i*32 - oH) 32=byC (ddH ep y.1):=by
   rw[Nat.add_sub_cancel_left];exact mO (k:=32) (fun x hx=>by
    rw[hHL] at hx;obtain⟨z,_,rfl⟩:=List.mem_map.1 hx;rw[zh,uD]) hH
  have hadd2:IntKind.i64.wrap ((i:Int)+1)=((i+1:Nat):Int):=zo Om Om Om;have hHx:=oW ep y.1.d y.1.c y.1.s (some ⟨y.2.v,0,none⟩) (some ⟨y.2.y,0,none⟩) (some ⟨y.2.p,0,none⟩) y.1.V.length y.1.Y.length y.1.P.length y.1.V y.1.Y y.1.P k.d k.fit.v k.fit.y k.fit.p (by have:=k.fit.vl;omega) (by have:=k.fit.yl;omega) (by have:=k.fit.pl;omega)
  repeat (first|refine Tk ?_|intro _|exact Tz)
  refine WC.dT rfl Om ?_
  repeat (first|refine WO.does (zb (o':=oD+i*13) rfl rfl hlt rfl) ?_|refine WO.does (zk (vs:=ddC ep y) (hs:=hsD) (hle:=Nat.le_add_right _ _) (hc:=nz hy)) ?_|refine Tj ?_|intro _|refine Tc ?_|exact Tz)
  refine WC.adraw 7 (k:=?_);refine DQ.does (fun s _=>zE (vs:=ddC ep y) (hc:=rfl)) Dp.const ?_;refine DQ.acallR (hc:=hHx) (hR:=fun wx hm=>⟨(w2.a y hym).v.mod hm.mod,(w2.a y hym).y.mod hm.mod,(w2.a y hym).p.mod hm.mod⟩) (k:=?_)
  iterate 2 refine Dx ?_
  refine DQ.does (fun s _=>zb (o':=oH+i*32) rfl rfl hlt rfl) Dp.const ?_;refine DQ.does (fun s _=>zk (vs:=byC (ddH ep y.1)) (hs:=hsH) (hle:=Nat.le_add_right _ _) (hc:=hcH) (hl:=by rw[zh,uD])) Dp.const ?_;refine DQ.does (fun s _=>eW (cg ep y.1) (cg ep y.1) (uD ep y.1) (uD ep y.1) rfl rfl (show (!decide (ddH ep y.1=ddH ep y.1))=false by simp)) Dp.const ?_;refine DQ.anil (k:=?_);intro sx _
  repeat (first|refine WO.does (ze rfl rfl hadd2) ?_|refine Tj ?_|intro _|refine Tc ?_|exact Tz)
  exact WX.metI (i+1) (hs:=⟨by show i+1≤T.length;omega,by show T.length - (i+1)<T.length - i;omega⟩)
 have hi2:i=T.length:=by omega
 clear hlt hi hHL w3;subst hi2
 repeat (first|refine Tk ?_|intro _|exact Tz)
 refine WC.dF rfl Om ?_
 repeat (first|refine Tk ?_|intro _|exact Tz)
 refine WC.loopI (σ:=Nat) (fun i=>i≤T.length) (fun i=>[(3,Sx.pt gS),(5,Sx.pt gE),(6,.slice none 0 0),(7,.int .i64 0),(45,.slice pD T.length cD),(46,.int .i64 (T.length:Int)),(47,.int .i64 (i:Int))])
  (fun _=>[⟨gE,59,evC (.slice pD T.length cD) (.slice pO ls.length cO) (.slice pS SH.length cS)⟩,⟨gS,36,stC p q g h (F:Int) (m:Int) (.slice pt N.length c)⟩]) (fun i=>T.length - i) 0 (fun i hi=>?_) (Nat.zero_le _)
 try dsimp only at hi ⊢
 by_cases hlt:i<T.length
 ·obtain⟨y,hy⟩ : ∃ y,T[i]?=some y:=⟨_,List.getElem?_eq_getElem hlt⟩;have hym:=List.mem_of_getElem? hy;have k:=hW i y hy;obtain⟨bD,oD,rfl,_,hsD⟩:=id w2.d |>.get hy
  have hadd2:IntKind.i64.wrap ((i:Int)+1)=((i+1:Nat):Int):=zo Om Om Om;have hCk:=rR p q g h (F:Int) (m:Int) pt (some ⟨y.2.v,0,none⟩) (some ⟨y.2.y,0,none⟩) (some ⟨y.2.p,0,none⟩) c y.1.V.length y.1.Y.length y.1.P.length N ep y.1.d y.1.V y.1.Y y.1.P y.1.c y.1.s hp hq hg hh hN hNl Om Om Om Om k.d k.num.v k.num.y k.num.p k.fit.vl k.fit.yl k.fit.pl k.num.c k.num.s;rw[k.ck] at hCk
  repeat (first|refine Tk ?_|intro _|exact Tz)
  refine WC.dT rfl Om ?_
  repeat (first|refine WO.does (zb (o':=oD+i*13) rfl rfl hlt rfl) ?_|refine WO.does (zk (vs:=ddC ep y) (hs:=hsD) (hle:=Nat.le_add_right _ _) (hc:=nz hy)) ?_|refine WO.does (zE (vs:=ddC ep y) (hc:=rfl)) ?_|refine WO.acallR (hc:=hCk) (hR:=fun wx hm=>⟨⟨w1.mod hm.mod,(w2.a y hym).v.mod hm.mod,(w2.a y hym).y.mod hm.mod,(w2.a y hym).p.mod hm.mod⟩,w4.mod hm.mod Sm⟩) (k:=?_)|refine WO.does (zt rfl rfl Dt) ?_|refine WO.does (ze rfl rfl hadd2) ?_|refine Tj ?_|intro _|refine Tc ?_|exact Tz)
  exact WX.metI (i+1) (hs:=⟨by show i+1≤T.length;omega,by show T.length - (i+1)<T.length - i;omega⟩)
 have hi2:i=T.length:=by omega
 clear hlt hi w4;subst hi2
 repeat (first|refine Tk ?_|intro _|exact Tz)
 refine WC.dF rfl Om ?_
 repeat (first|refine Tk ?_|intro _|exact Tz)
 refine WC.loopI (σ:=Nat × Nat × Nat × List Nw) (fun s=>s.1≤T.length∧(0<s.1→b=true)∧s.2.2.2.map Nw.xs=(List.range s.1).map (fun i=>osL p q h (lP i) m)∧(∀ z∈s.2.2.2,z.c=m)∧(0<s.1→s.1≤s.2.2.1∧s.2.2.1<9223372036854775808)) (fun s=>[(3,Sx.pt gS),(5,Sx.pt gE),(6,agV s.2.1 s.2.2.1 s.1 s.1),(7,.int .i64 0),(59,.slice pD T.length cD),(60,.int .i64 (T.length:Int)),(61,.int .i64 (s.1:Int))])
  (fun s=>⟨gE,59,evC (.slice pD T.length cD) (.slice pO ls.length cO) (.slice pS SH.length cS)⟩::⟨gS,36,stC p q g h (F:Int) (m:Int) (.slice pt N.length c)⟩::(afH s.2.1 s.2.2.1 s.2.2.2 s.1++nwB s.2.2.2)) (fun s=>T.length - s.1) (0,0,0,[]) (fun s hi=>?_) ⟨Nat.zero_le _,fun h=>absurd h Dt,rfl,by simp,fun h=>absurd h Dt⟩
 obtain⟨i,gO,cO',Z⟩:=s;obtain⟨hi,hib,hZ,hZm,hr⟩:=hi
 try dsimp only at hi hib hZ hZm hr ⊢
 have hZl:Z.length=i:=by have:=congrArg List.length hZ;simpa using this
 have hBl:(Z.flatMap nwC).length=i*1:=by rw[zy sc,hZl]
 by_cases hlt:i<T.length
 ·obtain⟨y,hy⟩ : ∃ y,T[i]?=some y:=⟨_,List.getElem?_eq_getElem hlt⟩;have hym:=List.mem_of_getElem? hy;have k:=hW i y hy;have hbi:=hb i y hy (by rcases Nat.eq_zero_or_pos i with h|h;exact .inr h;exact .inl (hib h));obtain⟨bD,oD,rfl,_,hsD⟩:=id w2.d |>.get hy
  have hadd2:IntKind.i64.wrap ((i:Int)+1)=((i+1:Nat):Int):=zo Om Om Om;have hM1:=bd p q g h F m pt c N ep y (.slice (some ⟨bD,oD,none⟩) T.length cD) (.slice pO ls.length cO) (.slice pS SH.length cS);have hM2:=fF p q g h F m pt c N ep y (.slice (some ⟨bD,oD,none⟩) T.length cD) (.slice pO ls.length cO) (.slice pS SH.length cS)
  have hF1:=fun (gR e1 d1 s1 e2 d2 s2:Nat)=>abj (R:=fun w=>WyR p q g h F m pt c N ep y (some ⟨bD,oD,none⟩) cD T pO cO ls pS cS SH e1 d1 s1 w∧WyR p q g h F m pt c N ep y (some ⟨bD,oD,none⟩) cD T pO cO ls pS cS SH e2 d2 s2 w) (fun w w' hk hm=>⟨hk.1.mod (hm:=hm),hk.2.mod (hm:=hm)⟩) (f1:=88) (f2:=91) [Sx.pt e1,Sx.pt d1,Sx.pt s1] [Sx.pt e2,Sx.pt d2,Sx.pt s2] _ _ m (osL p q h (lP i) m)
   (Fn.weak (abF p q g h F m pt c N ep y (some ⟨bD,oD,none⟩) cD T pO cO ls pS cS SH e1 d1 s1 (osL p q h (lP i) m) hp hq hg hh hN hNl hF hm k.fit k.num.v hSl hSn k.sh) (fun _ h=>h.1) (fun _ _ h=>h))
   (Fn.weak (hOpn i y bD oD e2 d2 s2 hy) (fun _ h=>h.2) (fun _ _ h=>h)) gR 2
  rw[show (SH.any (swB ep y.1.d) || decide (F+m≤(tp (ckY p q g h F m N ep y.1) ls).length))=b from hbi] at hF1
  repeat (first|refine Tk ?_|intro _|exact Tz)
  refine WC.dT rfl Om ?_
  repeat (first|refine WO.does (zb (o':=oD+i*13) rfl rfl hlt rfl) ?_|refine WO.does (zk (vs:=ddC ep y) (hs:=hsD) (hle:=Nat.le_add_right _ _) (hc:=nz hy)) ?_|refine Tj ?_|intro _|refine Tc ?_|exact Tz)
  refine WC.adraw 15 (k:=?_);refine DQ.does (fun s _=>zE (vs:=stC p q g h (F:Int) (m:Int) (.slice pt N.length c)) (hc:=rfl)) Dp.const ?_;refine DQ.does (fun s _=>zE (vs:=ddC ep y) (hc:=rfl)) Dp.const ?_;refine DQ.does (fun s _=>zE (vs:=evC (.slice (some ⟨bD,oD,none⟩) T.length cD) (.slice pO ls.length cO) (.slice pS SH.length cS)) (hc:=rfl)) Dp.const ?_;refine DQ.acallX (hc:=hM1) (hR:=fun _ _=>trivial) (k:=?_);refine DQ.does (fun s _=>zE (vs:=stC p q g h (F:Int) (m:Int) (.slice pt N.length c)) (hc:=rfl)) Dp.const ?_;refine DQ.does (fun s _=>zE (vs:=ddC ep y) (hc:=rfl)) Dp.const ?_;refine DQ.does (fun s _=>zE (vs:=evC (.slice (some ⟨bD,oD,none⟩) T.length cD) (.slice pO ls.length cO) (.slice pS SH.length cS)) (hc:=rfl)) Dp.const ?_;refine DQ.acallX (hc:=hM2) (hR:=fun _ _=>trivial) (k:=?_);refine DQ.makes (vf:=fun _ g=>AX g 2 2) (t:=_) (cs:=fun s=>[fV (88,[Sx.pt (s 3 2),Sx.pt (s 3 1),Sx.pt (s 3 0)]),fV (91,[Sx.pt (s 7 2),Sx.pt (s 7 1),Sx.pt (s 7 0)])]) (fun s _=>zi rfl Dt rfl) Dp.const (by intro s s' h;dsimp only;rw[h 3 Dkk,h 7 Dkk]) ?_
  refine DQ.callsE (fs:=fun _=>[]) (cs:=fun _=>[]) (vf:=fun _ x=>wyV b m (x 0)) (Nf:=fun _ x=>wyN b (osL p q h (lP i) m) (x 0)) (S:=fun _ _=>True)
   (fun s=>[⟨s 8 0,_,[fV (88,[Sx.pt (s 3 2),Sx.pt (s 3 1),Sx.pt (s 3 0)]),fV (91,[Sx.pt (s 7 2),Sx.pt (s 7 1),Sx.pt (s 7 0)])]⟩,⟨s 7 2,59,evC (.slice (some ⟨bD,oD,none⟩) T.length cD) (.slice pO ls.length cO) (.slice pS SH.length cS)⟩,⟨s 7 1,51,ddC ep y⟩,⟨s 7 0,36,stC p q g h (F:Int) (m:Int) (.slice pt N.length c)⟩,⟨s 3 2,59,evC (.slice (some ⟨bD,oD,none⟩) T.length cD) (.slice pO ls.length cO) (.slice pS SH.length cS)⟩,⟨s 3 1,51,ddC ep y⟩,⟨s 3 0,36,stC p q g h (F:Int) (m:Int) (.slice pt N.length c)⟩])
   (fun s=>.cons 8 (.head _) Dkk (.cons 7 Mh.a Dkk (.cons 7 Mh.a Dkk (.cons 7 Mh.a Dkk (.cons 3 Mh.a Dkk (.cons 3 Mh.a Dkk (.cons 3 Mh.a Dkk .nil)))))))
   (fun _=>⟨fun _=>0,trivial⟩) (fun s _=>hF1 (s 8 0) (s 3 2) (s 3 1) (s 3 0) (s 7 2) (s 7 1) (s 7 0)) (fun _=>rfl) (fun _=>rfl) (fun _=>rfl)
   (fun s _ wx hm=>⟨Hs.seg Hs.here hm,⟨⟨Hs.seg Hs.a hm,Hs.seg Hs.a hm,Hs.seg Hs.a hm,w1.mod hm.mod,w2.mod hm.mod,(w2.a y hym).mod hm.mod⟩,⟨Hs.seg Hs.a hm,Hs.seg Hs.a hm,Hs.seg Hs.a hm,w1.mod hm.mod,w2.mod hm.mod,(w2.a y hym).mod hm.mod⟩⟩⟩) Dp.const Dp.const Dp.const ?_
  iterate 5 refine Dx ?_
  refine DQ.anil (k:=?_);intro sx _;generalize sx 9 0=gw
  try simp only[List.map_cons,List.map_nil,List.cons_append,List.nil_append]
  cases b with
  | false =>
   dsimp only[wy0,wyE]
   repeat (first|refine WO.does (zZ rfl rfl Dt) ?_|refine Tj ?_|intro _|refine Tc ?_|exact Tz)
   done
  | true =>
   dsimp only[wy0,wyE,wyN];simp only[List.map_cons,List.map_nil,List.cons_append,List.nil_append]
   repeat (first|refine WO.does (zt rfl rfl Dt) ?_|refine Tj ?_|intro _|refine Tc ?_|exact Tz)
   refine WO.makes (zi (cs:=[AX gw m m]) rfl Dt rfl) ?_;intro gb;have hB2:Z.flatMap nwC++[AX gw m m]=(Z++[(⟨gw,m,osL p q h (lP i) m⟩ : Nw)]).flatMap nwC:=by rw[List.flatMap_append];simp[nwC,ju]
   have hE2:nwE ⟨gw,m,osL p q h (lP i) m⟩=⟨gw,24,(osL p q h (lP i) m).flatMap zc⟩:=by unfold nwE;rw[ju,Nat.sub_self];simp[mkz]
   refine WO.appR (z:=[.slice none 0 0]) (g:=gO) (c:=cO') (n:=i) (m:=1) (l:=i+1) (B:=Z.flatMap nwC) (ys:=[AX gw m m]) (L1:=[_,_,_,_,_,_,_,_,_,_,_,_]) (L2:=nwB Z) rfl rfl rfl rfl hBl hr (Rds.own (m:=1) Hs.here rfl) rfl rfl Dt rfl Om Om Dt Dt (fun g1 c1 a1 a2=>?_);rw[hB2];simp only[List.cons_append,List.nil_append]
   repeat (first|refine WO.does (ze rfl rfl hadd2) ?_|refine Tj ?_|intro _|refine Tc ?_|exact Tz)
   exact WX.metI (i+1,g1,c1,Z++[⟨gw,m,osL p q h (lP i) m⟩]) (hl:=by simp only[acC,hE2,rwL,List.cons_append,List.nil_append];repeat (first|exact Lle.left'|refine Lle.c ?_|refine Lle.skp ?_)) (hs:=⟨⟨by show i+1≤T.length;omega,by simp,by show (Z++[_]).map Nw.xs=_;rw[List.map_append,hZ,ve];rfl,fun z hz=>by
    rcases List.mem_append.1 hz with hz|hz
    ·exact hZm z hz
    ·have:z=_:=List.mem_singleton.1 hz;rw[this],fun _=>⟨a2,a1⟩⟩,by show T.length - (i+1)<T.length - i;omega⟩)
 ·have hi3:i=T.length:=by omega
  have hbt:=hib Om;subst hbt;rw[← hi3];obtain⟨i',rfl⟩ : ∃ i',i=i' + 1:=⟨i - 1,by omega⟩;have hCl:=aeQ cO' (some ⟨gO,0,none⟩) (i' + 1) (hr Om).1;dsimp only[agV,rwL]
  repeat (first|refine Tk ?_|intro _|exact Tz)
  refine WC.dF rfl Om ?_
  repeat (first|refine Tj ?_|intro _|refine WO.acall (hc:=hCl) (k:=?_)|refine Tc ?_|exact Tz)
  exact WX.ret2 rfl Rv.t Rv.t (afH gO cO' Z (i' + 1)++nwB Z) (by simp only[rwL,List.cons_append,List.nil_append];repeat (first|exact Lle.left'|refine Lle.c ?_|refine Lle.skp ?_)) ⟨gO,cO',Z,rfl,rfl,hZ,hZm⟩
theorem gJ (lP:Nat→List Nat) (b:Bool) (hp:p<zd) (hq:q<zd) (hg:g<zd) (hh:h<zd) (hN:zV N) (hNl:N.length≤100) (hP:Pri q) (hs:yW p q g h (F:Int) (m:Int) N=true) (hF:F≤10) (hm:m≤10) (hep:ep<18446744073709551616)
  (hls:ls.length≤1000) (hok:∀ x∈ls,ae6 x) (hSl:SH.length≤1000) (hSn:∀ x∈SH,(∀ a∈x.P,a<zd)∧x.P.length≤100)
  (hT0:0<T.length) (hTl:T.length≤1000) (hHL:HL=T.map fun y=>ddH ep y.1) (hW:∀ i y,T[i]?=some y→WyH p q g h F m N ep ls SH y.1 (lP i))
  (hb:∀ i y,T[i]?=some y→(b=true∨i=0)→wB p q g h F m N ep ls SH y.1=b) :
  Fn Tryz.prog 11 [stV p q g h (F:Int) (m:Int) (.slice pt N.length c),.slice pH T.length cH,evV (.slice pD T.length cD) (.slice pO ls.length cO) (.slice pS SH.length cS)]
   (fun w=>RdF yx (.slice pt N.length c) N w∧EvR ep pD cD T pO cO ls pS cS SH w∧RdF byC (.slice pH T.length cH) HL w∧o8 w) (ahY p q h m T.length lP b) :=
 jm p q g h F m pt c N ep pD cD T pO cO ls pS cS SH pH cH HL lP b hp hq hg hh hN hNl hs hF hm hep hSl hSn hT0 hTl hHL hW hb (fun i y bD oD e2 d2 s2 hy=>by
  have k:=hW i y hy;exact dz p q g h F m pt c N ep y (some ⟨bD,oD,none⟩) cD T pO cO ls pS cS SH e2 d2 s2 (lP i) hp hq hg hh hN hNl hP hs hF hm hep k.d k.num.y hls hok k.ll k.op)
end
theorem ub {Z:List Nw} {z:Nw} (h:z∈Z):nwE z∈nwB Z:=List.mem_map.2 ⟨z,List.mem_reverse.2 h,rfl⟩
structure ahk (v:Value) (Z:List Nw) (w:World):Prop where
 o:RdF nwC v Z w
 i:∀ z∈Z,RdF zc (AX z.g z.xs.length z.c) z.xs w
theorem gj {z:Nw} {w:World} (h:(nwE z).ok w):RdF zc (AX z.g z.xs.length z.c) z.xs w:=by
 have:=Ent.ok.seg h 0;rw[List.drop_zero] at this;exact RdF.ownO this rfl
theorem iX (A B:List Nw) (pA pB:Option Addr) (cA cB n:Nat) (hA:A.length=n) (h:A.map Nw.xs=B.map Nw.xs) (hn:n≤1000) (hx:∀ z∈A,z.xs.length≤100) :
  Fn Tryz.prog 13 [.slice pA n cA,.slice pB n cB] (fun w=>ahk (.slice pA n cA) A w∧ahk (.slice pB n cB) B w) (Is (.bool true)):=by
 have hB:B.length=n:=by have:=congrArg List.length h;simpa [hA] using this.symm
 subst hA;refine Fn.enter Tryz.func13 rfl rfl rfl ?_;intro w hw;obtain⟨wA,wB⟩:=hw
 repeat (first|refine WO.does (zt rfl rfl rfl) ?_|refine Tj ?_|intro _|refine Tc ?_|exact Tz)
 refine WC.loopI (σ:=Nat) (fun i=>i≤A.length) (fun i=>[(0,.slice pA A.length cA),(1,.slice pB A.length cB),(5,.int .i64 (i:Int))]) (fun i=>[]) (fun i=>A.length - i) 0 (fun i hi=>?_) (Nat.zero_le _)
 try dsimp only at hi ⊢
 by_cases hlt:i<A.length
 ·obtain⟨x,hxa⟩ : ∃ x,A[i]?=some x:=⟨_,List.getElem?_eq_getElem hlt⟩;obtain⟨z,hz⟩ : ∃ z,B[i]?=some z:=⟨_,List.getElem?_eq_getElem Om⟩;have hxz:x.xs=z.xs:=by
   have h1:(A.map Nw.xs)[i]?=some x.xs:=by rw[List.getElem?_map,hxa];rfl
   have h2:(B.map Nw.xs)[i]?=some z.xs:=by rw[List.getElem?_map,hz];rfl
   rw[h,h2] at h1;exact (Option.some.inj h1).symm
  have r1:=wA.i x (List.mem_of_getElem? hxa);have r2:=wB.i z (List.mem_of_getElem? hz);obtain⟨b1,o1,rfl,_,s1⟩:=wA.o.get hxa;obtain⟨b2,o2,rfl,_,s2⟩:=wB.o.get hz;have q1:(A.flatMap nwC)[o1+i*1 - o1]?=some (AX x.g x.xs.length x.c):=by
   rw[Nat.add_sub_cancel_left];exact (yI (j:=0) (zB (f:=nwC) (k:=1) sc hxa) rfl)
  have q2:(B.flatMap nwC)[o2+i*1 - o2]?=some (AX z.g z.xs.length z.c):=by
   rw[Nat.add_sub_cancel_left];exact (yI (j:=0) (zB (f:=nwC) (k:=1) sc hz) rfl)
  have hS:=ek x.xs (some ⟨x.g,0,none⟩) (some ⟨z.g,0,none⟩) x.c z.c (hx x (List.mem_of_getElem? hxa));rw[← hxz] at q2 r2;have hadd2:IntKind.i64.wrap ((i:Int)+1)=((i+1:Nat):Int):=zo Om Om Om
  repeat (first|refine Tk ?_|intro _|exact Tz)
  refine WC.dT rfl Om ?_
  repeat (first|refine Tk ?_|intro _|exact Tz)
  refine WC.adraw 10 (k:=?_)
  iterate 2 refine Dx ?_
  refine DQ.does (fun s _=>zb (o':=o1+i*1) rfl rfl hlt rfl) Dp.const ?_;refine DQ.does (fun s _=>zn (hs:=s1) (hle:=Nat.le_add_right _ _) (hc:=q1)) Dp.const ?_
  iterate 2 refine Dx ?_
  refine DQ.does (fun s _=>zb (o':=o2+i*1) rfl rfl hlt rfl) Dp.const ?_;refine DQ.does (fun s _=>zn (hs:=s2) (hle:=Nat.le_add_right _ _) (hc:=q2)) Dp.const ?_;refine DQ.acallR (hc:=hS) (hR:=fun wx hm=>⟨r1.mod hm.mod,r2.mod hm.mod⟩) (k:=?_);refine Dx ?_;refine DQ.anil (k:=?_);intro sx _
  repeat (first|refine WO.does (ze rfl rfl hadd2) ?_|refine Tj ?_|intro _|refine Tc ?_|exact Tz)
  exact WX.metI (i+1) (hs:=⟨by show i+1≤A.length;omega,by show A.length - (i+1)<A.length - i;omega⟩)
 ·have hi2:A.length=i:=by omega
  rw[hi2]
  repeat (first|refine Tk ?_|intro _|exact Tz)
  refine WC.dF rfl Om ?_
  repeat (first|refine Tk ?_|intro _|exact Tz)
  done
theorem mS (O:Nat→Nat→Od) (n s many i:Nat):nE O n s many (i+1)=nE O n s many i++(List.range many).map fun k=>O i ((s+k)%n):=by
 unfold nE;rw[List.range_succ,List.flatMap_append];simp
theorem rb (O:Nat→Nat→Od) (n s many:Nat):∀ i,(nE O n s many i).length=i*many
 | 0=>by simp[nE]
 | i+1=>by rw[mS,List.length_append,rb O n s many i,List.length_map,List.length_range,Nat.succ_mul]
def aiq (ls:List Od) (n:Nat):Value→List Ent→Prop:=fun v L=>∃ g c,v=agV g c n n∧L=rwL 119 g (ls.flatMap odC) (mkz (c - n) (opC 0 0 0 0 0 0)) n∧(0<n→n≤c∧c<9223372036854775808)
section
variable (p q g h0 a:Nat) (F m:Nat) (pk:Option Addr) (ck:Nat) (ks:LP) (pt:Option Addr) (c:Nat) (ep:Nat) (pD:Option Addr) (cD:Nat) (T:List (Dd × Dk)) (s many:Nat) (lP:Nat→List Nat) (O:Nat→Nat→Od)
theorem fR (hp:p<zd) (hq:q<zd) (hg:g<zd) (hh0:h0<zd) (ha:a<zd) (hks:zV ks) (hk7:ks.length≤7) (hk0:0<ks.length) (hF:F≤10) (hm:m≤10) (hep:ep<18446744073709551616) (hs:s<256) (hmany:many≤10) (hTl:T.length≤7)
  (hT:∀ i y,T[i]?=some y→y.1.d=i+1∧y.1.Y=dYs p q (lP i) (csN p g a ks) ks.length)
  (hO:∀ i,i<T.length→∀ t,t<ks.length→OpF p q g (exN p g a) (F:Int) (m:Int) (csN p g a ks) ep (i+1) (lP i) (ks.map Prod.snd) (O i) t) :
  Fn Tryz.prog 12 [csV p q g h0 a (F:Int) (m:Int) (.slice pk ks.length ck),stV p q g (exN p g a) (F:Int) (m:Int) (.slice pt ks.length c),.slice pD T.length cD,.int .i64 (s:Int),.int .i64 (many:Int)]
   (fun w=>RdF yx (.slice pk ks.length ck) ks w∧RdF yx (.slice pt ks.length c) (csN p g a ks) w∧RdF (ddC ep) (.slice pD T.length cD) T w∧∀ y∈T,aR w y.1 y.2) (aiq (nE O ks.length s many T.length) (T.length*many)):=by
 have hNl:(csN p g a ks).length=ks.length:=yT p g a ks;have hNok:zV (csN p g a ks):=j2 hp;have hhb:exN p g a<zd:=tj hp;have hYb:∀ i,∀ y∈dYs p q (lP i) (csN p g a ks) ks.length,y<zd:=fun i=>adf hp;have hYl:∀ i,(dYs p q (lP i) (csN p g a ks) ks.length).length=ks.length:=fun i=>by simp[dYs]
 refine Fn.enter Tryz.func12 rfl rfl rfl ?_;intro w hw;obtain⟨w1,w2,w3,w4⟩:=hw
 repeat (first|refine Tk ?_|intro _|exact Tz)
 rename_i gZ gS
 refine WC.loopI (σ:=Nat × Nat × Nat) (fun s=>s.1≤T.length∧(0<s.1*many→s.1*many≤s.2.2∧s.2.2<9223372036854775808)) (fun x=>[(2,.slice pD T.length cD),(3,.int .i64 (s:Int)),(4,.int .i64 (many:Int)),(5,Sx.pt gZ),(6,Sx.pt gS),(11,agV x.2.1 x.2.2 (x.1*many) (x.1*many)),(12,.int .i64 (x.1:Int))])
  (fun x=>⟨gZ,29,csC p q g h0 a (F:Int) (m:Int) (.slice pk ks.length ck)⟩::⟨gS,36,stC p q g (exN p g a) (F:Int) (m:Int) (.slice pt ks.length c)⟩::rwL 119 x.2.1 ((nE O ks.length s many x.1).flatMap odC) (mkz (x.2.2 - x.1*many) (opC 0 0 0 0 0 0)) (x.1*many)) (fun x=>T.length - x.1) (0,0,0) (fun x hi=>?_) ⟨Nat.zero_le _,fun h=>absurd h Sm⟩ (hl:=by simp only[Nat.zero_mul,rwL];repeat (first|exact Lle.nil|refine Lle.c ?_)) (hk:=by simp only[Nat.zero_mul,agV];repeat (first|exact Kle.nil|refine Kle.cons rfl rfl ?_))
 obtain⟨i,gl,cl⟩:=x;obtain⟨hi,hr⟩:=hi
 try dsimp only at hi hr ⊢
 by_cases hlt:i<T.length
 ·obtain⟨y,hy⟩ : ∃ y,T[i]?=some y:=⟨_,List.getElem?_eq_getElem hlt⟩;have hym:=List.mem_of_getElem? hy;obtain⟨hyd,hyY⟩:=hT i y hy;have hOi:=hO i hlt;have hadd2:IntKind.i64.wrap ((i:Int)+1)=((i+1:Nat):Int):=zo Om Om Om;have him:i*many≤7*10:=Nat.mul_le_mul Om hmany;obtain⟨z,hz⟩ : ∃ z,i*many=z:=⟨_,rfl⟩;have hB0l:(nE O ks.length s many i).length=z:=by rw[rb,hz]
  have hsucc:=mS O ks.length s many i;have hz2:(i+1)*many=z+many:=by rw[Nat.succ_mul,hz]
  rw[hz] at hr him ⊢;generalize nE O ks.length s many i=B0 at *
  repeat (first|refine Tk ?_|intro _|exact Tz)
  refine WC.dT rfl Om ?_
  repeat (first|refine Tk ?_|intro _|exact Tz)
  refine WC.loopI (σ:=Nat × Nat × Nat) (fun x=>x.1≤many∧(0<z+x.1→z+x.1≤x.2.2∧x.2.2<9223372036854775808)) (fun x=>[(2,.slice pD T.length cD),(3,.int .i64 (s:Int)),(4,.int .i64 (many:Int)),(5,Sx.pt gZ),(6,Sx.pt gS),(11,agV x.2.1 x.2.2 (z+x.1) (z+x.1)),(12,.int .i64 (i:Int)),(13,.int .i64 (x.1:Int))])
   (fun x=>⟨gZ,29,csC p q g h0 a (F:Int) (m:Int) (.slice pk ks.length ck)⟩::⟨gS,36,stC p q g (exN p g a) (F:Int) (m:Int) (.slice pt ks.length c)⟩::rwL 119 x.2.1 ((B0++(List.range x.1).map fun k=>O i ((s+k)%ks.length)).flatMap odC) (mkz (x.2.2 - (z+x.1)) (opC 0 0 0 0 0 0)) (z+x.1)) (fun x=>many - x.1) (0,gl,cl) (fun x hi=>?_) ⟨Nat.zero_le _,hr⟩ (hl:=by simp only[List.range_zero,List.map_nil,List.append_nil,Nat.add_zero];exact Lle.left') (hk:=by simp only[Nat.add_zero];repeat (first|exact Kle.nil|refine Kle.cons rfl rfl ?_))
  obtain⟨k,gl,cl⟩:=x;obtain⟨hk,hr⟩:=hi
  try dsimp only at hk hr ⊢
  by_cases hlk:k<many
  ·obtain⟨t,ht⟩ : ∃ t,(s+k)%ks.length=t:=⟨_,rfl⟩;have htn:t<ks.length:=by rw[← ht];exact Nat.mod_lt _ hk0
   obtain⟨x,hx⟩ : ∃ x,ks[t]?=some x:=⟨_,List.getElem?_eq_getElem htn⟩;have hxb:=(hks x (List.mem_of_getElem? hx)).2;have hxg:(ks.map Prod.snd).getD t 0=x.2:=by rw[List.getD_eq_getElem?_getD,List.getElem?_map,hx];rfl
   have hoR:=(hOi t htn).r;rw[hNl,hxg,← hyd] at hoR;have hc1:=adu p q g (exN p g a) (F:Int) (m:Int) pt c (csN p g a ks) ep y.1.d (t+1) x.2 (some ⟨y.2.y,0,none⟩) y.1.Y.length y.1.Y y.1.c y.1.s (AX y.2.v y.1.V.length y.1.V.length) (AX y.2.p y.1.P.length y.1.P.length) hp hq hg hhb hNok Om Om Om Om Om Om hxb (by rw[hyY];exact hYb i) hep Om;rw[hNl,show opR p q g (exN p g a) (F:Int) (m:Int) (csN p g a ks) ep y.1.d (t+1) x.2 y.1.Y=.tuple #[.agg (odC (O i t)).toArray,.int .i64 0] by rw[hyY];exact hoR] at hc1;have hsk:IntKind.i64.wrap ((s:Int)+(k:Int))=((s+k:Nat):Int):=zo Om Om Om;have hrem:((s+k:Nat):Int).tmod (ks.length:Int)=(t:Int):=by rw[← ht];rfl
   have hadd3:IntKind.i64.wrap ((k:Int)+1)=((k+1:Nat):Int):=zo Om Om Om;have hadd4:IntKind.i64.wrap ((t:Int)+1)=((t+1:Nat):Int):=zo Om Om Om;have hcv4:IntKind.u8.wrap ((t+1:Nat):Int)=((t+1:Nat):Int):=ua Om Om Om;obtain⟨bD,oD,rfl,_,hsD⟩:=id w3 |>.get hy
   obtain⟨bK,oK,rfl,_,hsK⟩:=id w1 |>.get hx
   have hcK:cut (ks.flatMap yx) (oK+t*8+4 - oK) 4=zc x.2:=by
    have h1:=zB (f:=yx) (k:=8) vF hx;rw[show oK+t*8+4 - oK=t*8+4 by omega];exact afB h1 (j:=4) (m:=4) rfl Dt
   have hBl:((B0++(List.range k).map fun k=>O i ((s+k)%ks.length)).flatMap odC).length=(z+k)*15:=by rw[zy vB,List.length_append,hB0l,List.length_map,List.length_range]
   have hB2:(B0++(List.range k).map fun k=>O i ((s+k)%ks.length)).flatMap odC++odC (O i t)=(B0++(List.range (k+1)).map fun k=>O i ((s+k)%ks.length)).flatMap odC:=by
    rw[List.range_succ,List.map_append,← List.append_assoc,List.flatMap_append (ys:=List.map _ [k])];simp[ht]
   clear hO hOi hT hoR;generalize (B0++(List.range k).map fun k=>O i ((s+k)%ks.length)).flatMap odC=B at *
   repeat (first|refine Tk ?_|intro _|exact Tz)
   refine WC.dT rfl Om ?_
   repeat (first|refine WO.does (ze rfl rfl hsk) ?_|refine WO.does (yE rfl rfl Om hrem) ?_|refine Tj ?_|intro _|refine Tc ?_|exact Tz)
   refine WC.adrawF [17] 19 (k:=?_);refine DQ.does (fun s _=>zE (vs:=stC p q g (exN p g a) (F:Int) (m:Int) (.slice pt ks.length c)) (hc:=rfl)) Dp.const ?_
   iterate 2 refine Dx ?_
   refine DQ.does (fun s _=>zb (o':=oD+i*13) rfl rfl hlt rfl) Dp.const ?_;refine DQ.does (fun s _=>zk (vs:=ddC ep y) (hs:=hsD) (hle:=Nat.le_add_right _ _) (hc:=nz hy)) Dp.const ?_;refine Dx ?_;refine DQ.does (fun s _=>ze rfl rfl hadd4) Dp.const ?_;refine DQ.does (fun s _=>zC rfl hcv4) Dp.const ?_
   iterate 3 refine Dx ?_
   refine DQ.does (fun s _=>zb (o':=oK+t*8) rfl rfl htn rfl) Dp.const ?_;refine Dx ?_;refine DQ.does (fun s _=>zk (vs:=zc x.2) (hs:=hsK) (hle:=by omega) (hc:=hcK)) Dp.const ?_;refine DQ.acallR (hc:=hc1) (hR:=fun wx hm=>⟨(w2.mod hm.mod).rdK,(w4 y hym).y.mod hm.mod⟩) (k:=?_)
   repeat (first|refine Da ?_|refine Df ?_)
   refine DQ.anil (k:=?_);intro sx _
   repeat (first|refine Tk ?_|intro _|exact Tz)
   refine WO.makes (zi (cs:=odC (O i t)) rfl Dt rfl) ?_;intro gb;refine WO.appR (z:=opC 0 0 0 0 0 0) (g:=gl) (c:=cl) (n:=z+k) (m:=1) (l:=z+k+1) (B:=B) (ys:=odC (O i t)) (L1:=[_,_,_,_]) (L2:=[]) rfl rfl rfl (by rw[List.append_nil];rfl) hBl hr (Rds.own (m:=15) Hs.here rfl) rfl rfl Dt rfl Om Om Dt Dt (fun g1 c1 a1 a2=>?_);rw[hB2];simp only[List.cons_append,List.nil_append,List.append_nil]
   repeat (first|refine WO.does (ze rfl rfl hadd3) ?_|refine Tj ?_|intro _|refine Tc ?_|exact Tz)
   exact WX.metI (k+1,g1,c1) (hs:=⟨⟨by show k+1≤many;omega,fun _=>⟨a2,a1⟩⟩,by show many - (k+1)<many - k;omega⟩)
  ·have hkm:k=many:=by omega
   subst hkm;rw[← hsucc]
   repeat (first|refine Tk ?_|intro _|exact Tz)
   refine WC.dF rfl Om ?_
   repeat (first|refine WO.does (ze rfl rfl hadd2) ?_|refine Tj ?_|intro _|refine Tc ?_|exact Tz)
   exact WX.metI (i+1,gl,cl) (hl:=by simp only[hz2];exact Lle.left') (hk:=by simp only[hz2];repeat (first|exact Kle.nil|refine Kle.cons rfl rfl ?_)) (hs:=⟨⟨by show i+1≤T.length;omega,by show 0<(i+1)*k→_;rw[hz2];exact hr⟩,by show T.length - (i+1)<T.length - i;omega⟩)
 ·have hi2:i=T.length:=by omega
  subst hi2
  repeat (first|refine Tk ?_|intro _|exact Tz)
  refine WC.dF rfl Om ?_
  repeat (first|refine Tk ?_|intro _|exact Tz)
  exact WX.ret1 rfl Rv.t _ (by repeat (first|exact Lle.left'|refine Lle.skp ?_)) ⟨gl,cl,rfl,rfl,hr⟩
end
end Sx
end
section
open Go Go.RowKit Go.BigFrame
namespace Sx
attribute [local irreducible] DQ WC WO WX uj ddH hOf wd
structure Rr where
 pt:Option Addr
 xs:List Nat
 c:Nat
def rrC (x:Rr):List Value:=[.slice x.pt x.xs.length x.c]
def rrP (PP:List Rr) (i:Nat):List Nat:=(PP[i]?.map Rr.xs).getD []
def mdB (W:List ((Dd × Dk) × Nw)):List Ent:=W.reverse.flatMap fun x=>nwE x.2::ddL x.1.1 x.1.2
theorem abX (W:List ((Dd × Dk) × Nw)) (x:(Dd × Dk) × Nw):mdB (W++[x])=nwE x.2::(ddL x.1.1 x.1.2++mdB W):=by unfold mdB;rw[List.reverse_append];rfl
theorem agJ {W:List ((Dd × Dk) × Nw)} {x:(Dd × Dk) × Nw} (h:x∈W):nwE x.2∈mdB W:=List.mem_flatMap.2 ⟨x,List.mem_reverse.2 h,List.mem_cons_self ..⟩
theorem agY {W:List ((Dd × Dk) × Nw)} {x:(Dd × Dk) × Nw} (h:x∈W) {e:Ent} (he:e∈ddL x.1.1 x.1.2):e∈mdB W:=List.mem_flatMap.2 ⟨x,List.mem_reverse.2 h,List.mem_cons_of_mem _ he⟩
abbrev mxC (ep:Nat) (ps:Value) (many:Nat):List Value:=[.int .u64 (ep:Int),ps,.int .u8 (many:Int)]
abbrev hzC:List Value:=byC (List.replicate 32 0)
structure qu (p q g a F m:Nat) (ks:LP) (ep:Nat) (PP:List Rr) (n:Nat) (W:List ((Dd × Dk) × Nw)):Prop where
 d:W.map (fun x=>x.1.1)=(List.range n).map fun i=>dqX p q g a F m ks ep i (rrP PP i)
 p:W.map (fun x=>x.2.xs)=(List.range n).map fun i=>dqL q (rrP PP i) (F+m)
def ahS (p q g a F m:Nat) (ks:LP) (ep:Nat) (PP:List Rr) (n:Nat):Value→List Ent→Prop:=fun v L=>∃ gl cl gp cp gh ch W,v=.tuple #[AX gl n cl,AX gp n cp,AX gh n ch] ∧
 L=⟨gl,51,(W.map Prod.fst).flatMap (ddC ep)++mkz (cl - n) dzC⟩::⟨gp,46,(W.map Prod.snd).flatMap nwC++mkz (cp - n) [.slice none 0 0]⟩::⟨gh,70,(W.map fun x=>ddH ep x.1.1).flatMap byC++mkz (ch - n) hzC⟩::mdB W ∧
 qu p q g a F m ks ep PP n W∧(n≤cl∧cl<9223372036854775808)∧(n≤cp∧cp<9223372036854775808)∧(n≤ch∧ch<9223372036854775808)
theorem nJ {α β:Type} (f:α→β) (G:Nat→β) {W:List α} {x:α} {i:Nat} (h:W.map f=(List.range i).map G) (hx:f x=G i):(W++[x]).map f=(List.range (i+1)).map G:=by
 rw[List.map_append,h,ve,← hx];rfl
section
variable (p q g h0 a:Nat) (F m:Nat) (pk:Option Addr) (ck:Nat) (ks:LP) (pt:Option Addr) (c:Nat) (ep:Nat) (pP:Option Addr) (cP:Nat) (PP:List Rr) (many:Nat)
theorem abU (hc:qb p q g a (F:Int) (m:Int) ks) (hp:p<zd) (hq:q<zd) (hg:g<zd) (hh0:h0<zd) (ha:a<zd) (hks:zV ks) (hep:ep<18446744073709551616) (hmany:many<256)
  (hPb:∀ x∈PP,∀ v∈x.xs,v<4294967296) (hPl:PP.length≤10) :
  Fn Tryz.prog 10 [csV p q g h0 a (F:Int) (m:Int) (.slice pk ks.length ck),stV p q g (exN p g a) (F:Int) (m:Int) (.slice pt ks.length c),.agg (mxC ep (.slice pP PP.length cP) many).toArray]
   (fun w=>RdF yx (.slice pk ks.length ck) ks w∧RdF yx (.slice pt ks.length c) (csN p g a ks) w∧RdE rrC (.slice pP PP.length cP) PP w∧∀ x∈PP,RdE fN (.slice x.pt x.xs.length x.c) x.xs w)
   (ahS p q g a F m ks ep PP (many%ks.length+1)):=by
 obtain⟨hs1',hs7,hsq,hs0,hs2',hs5,_,_⟩:=ya hc.set;have hNl2:=yT p g a ks;have hk7:=hc.len;have hn:0<ks.length:=by omega
 have hq0:0<q:=by omega
 have hq64:q<18446744073709551616:=by have:=hc.q32;omega
 have hwq:wd 0 q=q:=cf hq64;have hwq0:((wd 0 q:Nat):Int)≠0:=by rw[hwq];omega
 have hcvm:IntKind.i64.wrap (many:Int)=(many:Int):=i64_in Om Om;have hrmm:((many:Int)).tmod (ks.length:Int)=((many%ks.length:Nat):Int):=rfl;have hmn:many%ks.length<ks.length:=Nat.mod_lt _ hn;have hFm:IntKind.i64.wrap ((F:Int)+(m:Int))=((F+m:Nat):Int):=zo Om Om Om;have hFm0:0<F+m:=by omega
 have hz32:(hzC).length=32:=by rw[zh];rfl
 have hDt:=fun (i:Nat) (p1:Option Addr) (c1:Nat) (P:LN) (hP:∀ x∈P,x<4294967296) (hi:i<256)=>aet p q g h0 a F m pk ck ks pt c ep i p1 c1 P hc hn hp hq hg hh0 ha hks hP hi hep;have hXf:=fun i P=>cr (p:=p) (q:=q) (g:=g) (a:=a) (F:=F) (m:=m) (ks:=ks) (ep:=ep) (d:=i) (P:=P) hn Om;have hXd:=fun i P=>ahU (p:=p) (q:=q) (g:=g) (a:=a) (F:=F) (m:=m) (ks:=ks) (ep:=ep) (d:=i) (P:=P) hn;generalize many%ks.length=mL at *;refine Fn.enter Tryz.func10 rfl rfl rfl ?_;intro w hw;obtain⟨w1,w2,w3,w4⟩:=hw
 repeat (first|refine Tk ?_|intro _|exact Tz)
 rename_i gZ gS gX;obtain⟨Rows,hRows⟩ : ∃ Rows:Nat→Nat→Nat→Nat→Nat→Nat→Nat→List ((Dd × Dk) × Nw)→List Ent,∀ i gl cl gp cp gh ch W,Rows i gl cl gp cp gh ch W=rwL 51 gl ((W.map Prod.fst).flatMap (ddC ep)) (mkz (cl - i) dzC) i++(rwL 46 gp ((W.map Prod.snd).flatMap nwC) (mkz (cp - i) [.slice none 0 0]) i++(rwL 70 gh ((W.map fun x=>ddH ep x.1.1).flatMap byC) (mkz (ch - i) hzC) i++mdB W)):=⟨_,fun _ _ _ _ _ _ _ _=>rfl⟩
 refine WC.loopI (σ:=Nat × (Nat × Nat) × (Nat × Nat) × (Nat × Nat) × List ((Dd × Dk) × Nw)) (fun s=>s.1≤mL+1∧qu p q g a F m ks ep PP s.1 s.2.2.2.2∧(0<s.1→(s.1≤s.2.1.2∧s.2.1.2<9223372036854775808)∧(s.1≤s.2.2.1.2∧s.2.2.1.2<9223372036854775808)∧(s.1≤s.2.2.2.1.2∧s.2.2.2.1.2<9223372036854775808)))
  (fun s=>[(3,Sx.pt gZ),(4,Sx.pt gS),(5,Sx.pt gX),(9,agV s.2.1.1 s.2.1.2 s.1 s.1),(10,agV s.2.2.1.1 s.2.2.1.2 s.1 s.1),(11,agV s.2.2.2.1.1 s.2.2.2.1.2 s.1 s.1),(12,.int .i64 (s.1:Int))])
  (fun s=>⟨gX,32,mxC ep (.slice pP PP.length cP) many⟩::⟨gS,36,stC p q g (exN p g a) (F:Int) (m:Int) (.slice pt ks.length c)⟩::⟨gZ,29,csC p q g h0 a (F:Int) (m:Int) (.slice pk ks.length ck)⟩::Rows s.1 s.2.1.1 s.2.1.2 s.2.2.1.1 s.2.2.1.2 s.2.2.2.1.1 s.2.2.2.1.2 s.2.2.2.2) (fun s=>mL+1 - s.1) (0,(0,0),(0,0),(0,0),[]) (fun s hi=>?_) ⟨Nat.zero_le _,⟨rfl,rfl⟩,fun h=>absurd h Dt⟩ (hl:=by simp only[hRows];repeat (first|exact Lle.nil|refine Lle.c ?_))
 obtain⟨i,⟨gl,cl⟩,⟨gp,cp⟩,⟨gh,ch⟩,W⟩:=s;obtain⟨hi,hW,hr⟩:=hi
 try dsimp only at hi hW hr ⊢
 have hWl:W.length=i:=by have:=congrArg List.length hW.d;simpa using this
 by_cases hlt:i<mL+1
 ·have hadd2:IntKind.i64.wrap ((i:Int)+1)=((i+1:Nat):Int):=zo Om Om Om;have hcvi:IntKind.u8.wrap (i:Int)=(i:Int):=u8_in Om Om
  repeat (first|refine WO.does (zC rfl hcvm) ?_|refine WO.does (yE rfl rfl Om hrmm) ?_|refine Tj ?_|intro _|refine Tc ?_|exact Tz)
  refine WC.dT rfl Om ?_
  repeat (first|refine Te ?_|(refine Tm ?_;intro _)|refine Tc ?_|exact Tz)
  refine WX.seq ?_
  repeat (first|refine Te ?_|(refine Tm ?_;intro _)|refine Tc ?_|exact Tz)
  refine WC.seq ?_
  repeat (first|refine Te ?_|(refine Tm ?_;intro _)|refine Tc ?_|exact Tz)
  refine WC.seq ?_
  repeat (first|refine Te ?_|(refine Tm ?_;intro _)|refine Tc ?_|exact Tz)
  refine WX.seq ?_
  refine WC.joinI (σ:=Option Addr × Nat × List Nat) (fun s=>s.2.2=rrP PP i∧(∀ v∈s.2.2,v<4294967296)∧RdE fN (.slice s.1 s.2.2.length s.2.1) s.2.2 w) (fun s=>[(3,Sx.pt gZ),(4,Sx.pt gS),(5,Sx.pt gX),(9,agV gl cl i i),(10,agV gp cp i i),(11,agV gh ch i i),(12,.int .i64 (i:Int)),(13,.slice s.1 s.2.2.length s.2.1)])
   (fun _=>⟨gX,32,mxC ep (.slice pP PP.length cP) many⟩::⟨gS,36,stC p q g (exN p g a) (F:Int) (m:Int) (.slice pt ks.length c)⟩::⟨gZ,29,csC p q g h0 a (F:Int) (m:Int) (.slice pk ks.length ck)⟩::Rows i gl cl gp cp gh ch W) ?_ (fun s hs=>?_)
  ·by_cases hiP:i<PP.length
   ·obtain⟨x,hx⟩ : ∃ x,PP[i]?=some x:=⟨_,List.getElem?_eq_getElem hiP⟩;have hxm:=List.mem_of_getElem? hx;obtain⟨bP,oP,rfl,_,hsP⟩:=id w3 |>.get hx
    have hcP:(PP.flatMap rrC)[oP+i*1 - oP]?=some (.slice x.pt x.xs.length x.c):=by
     rw[Nat.add_sub_cancel_left];exact yI (j:=0) (zB (f:=rrC) (k:=1) (fun _=>rfl) hx) rfl
    repeat (first|refine WO.does (yy rfl rfl Om) ?_|refine WO.does (zb (o':=oP+i*1) rfl rfl hiP rfl) ?_|refine WO.does (zn (hs:=hsP) (hle:=Nat.le_add_right _ _) (hc:=hcP)) ?_|refine Tj ?_|intro _|refine Tc ?_|exact Tz)
    exact WX.metI (x.pt,x.c,x.xs) (hl:=by (try simp only[List.cons_append,List.nil_append]);repeat (first|exact Lle.left'|refine Lle.c ?_|refine Lle.skp ?_)) (hs:=⟨by unfold rrP;rw[hx];rfl,hPb x hxm,w4 x hxm⟩)
   ·repeat (first|refine WO.does (zO rfl rfl Om) ?_|refine Tj ?_|intro _|refine Tc ?_|exact Tz)
    exact WX.metI (none,0,[]) (hl:=by (try simp only[List.cons_append,List.nil_append]);repeat (first|exact Lle.left'|refine Lle.c ?_|refine Lle.skp ?_)) (hs:=⟨by unfold rrP;rw[List.getElem?_eq_none Om];rfl,by simp,none,0,rfl,.inl rfl⟩)
  obtain⟨pQ,cQ,P⟩:=s;obtain⟨hPe,hPn,hPr⟩:=hs
  try dsimp only at hPe hPn hPr ⊢
  have hDe0:=hDt i pQ cQ P hPn Om;have hVl:=ady (p:=p) (q:=q) (g:=g) (a:=a) (F:=F) (m:=m) (ks:=ks) (ep:=ep) (d:=i) (P:=P);have hYl:=adM (p:=p) (q:=q) (g:=g) (a:=a) (F:=F) (m:=m) (ks:=ks) (ep:=ep) (d:=i) (P:=P);have hPl':=adB (p:=p) (q:=q) (g:=g) (a:=a) (F:=F) (m:=m) (ks:=ks) (ep:=ep) (d:=i) (P:=P);have hfit:=hXf i P;have hxd:=hXd i P;have hXe:dqX p q g a F m ks ep i P=dqX p q g a F m ks ep i (rrP PP i):=by rw[hPe]
  have hll:=u5 q P (F+m);have hLe:dqL q P (F+m)=dqL q (rrP PP i) (F+m):=by rw[hPe]
  generalize dqX p q g a F m ks ep i P=X at *
  have hDe:Fn Tryz.prog 30 [csV p q g h0 a (F:Int) (m:Int) (.slice pk ks.length ck),stV p q g (exN p g a) (F:Int) (m:Int) (.slice pt ks.length c),.int .u64 (ep:Int),dqV i (.slice pQ P.length cQ)] (fun w=>RdF yx (.slice pk ks.length ck) ks w∧RdF yx (.slice pt ks.length c) (csN p g a ks) w∧RdE fN (.slice pQ P.length cQ) P w)
   (Ex (fun s=>ah1 ep X (some ⟨s 0,0,none⟩) (some ⟨s 1,0,none⟩) (some ⟨s 2,0,none⟩) X.V.length X.Y.length X.P.length) (fun s=>ddL X ⟨s 0,s 1,s 2,0,0,0⟩) (fun _=>True)):=by
   rw[hVl,hYl,hPl'];exact hDe0
  clear hDe0 hDt hXf hXd
  repeat (first|refine WO.does (zC rfl hcvi) ?_|refine Tj ?_|intro _|refine Tc ?_|exact Tz)
  refine WO.acallX (hc:=hDe) (hR:=fun wx hm=>⟨w1.mod hm.mod,w2.mod hm.mod,hPr.mod hm.mod⟩) (k:=fun s _=>?_);generalize s 0=gV;generalize s 1=gY;generalize s 2=gP;simp only[ddL,List.cons_append,List.nil_append]
  repeat (first|refine Tk ?_|intro _|exact Tz)
  rename_i gd
  refine WC.loopI (σ:=Nat × Nat × Nat) (fun s=>s.1≤F+m∧(0<s.1→s.1≤s.2.2∧s.2.2<9223372036854775808)) (fun s=>[(3,Sx.pt gZ),(4,Sx.pt gS),(5,Sx.pt gX),(9,agV gl cl i i),(10,agV gp cp i i),(11,agV gh ch i i),(12,.int .i64 (i:Int)),(13,.slice pQ P.length cQ),(14,Sx.pt gd),(15,agV s.2.1 s.2.2 s.1 s.1),(16,.int .i64 (s.1:Int))])
   (fun s=>⟨gd,51,ddC ep (X,⟨gV,gY,gP,0,0,0⟩)⟩::⟨gV,24,X.V.flatMap zc++mkz 0 (zc 0)⟩::⟨gY,24,X.Y.flatMap zc++mkz 0 (zc 0)⟩::⟨gP,117,X.P.flatMap pfC++mkz 0 (sk 0 0)⟩::⟨gX,32,mxC ep (.slice pP PP.length cP) many⟩::⟨gS,36,stC p q g (exN p g a) (F:Int) (m:Int) (.slice pt ks.length c)⟩::⟨gZ,29,csC p q g h0 a (F:Int) (m:Int) (.slice pk ks.length ck)⟩::(rwL 24 s.2.1 ((dqL q P s.1).flatMap zc) (mkz (s.2.2 - s.1) (zc 0)) s.1++Rows i gl cl gp cp gh ch W)) (fun s=>F+m - s.1) (0,0,0) (fun s hi=>?_) ⟨Nat.zero_le _,fun h=>absurd h Dt⟩ (hl:=by (try simp only[List.cons_append,List.nil_append]);repeat (first|exact Lle.left'|refine Lle.c ?_|refine Lle.skp ?_))
  obtain⟨k,gc,cc⟩:=s;obtain⟨hk,hrc⟩:=hi
  try dsimp only at hk hrc ⊢
  by_cases hlk:k<F+m
  ·have hadd3:IntKind.i64.wrap ((k:Int)+1)=((k+1:Nat):Int):=zo Om Om Om
   repeat (first|refine WO.does (ze rfl rfl hFm) ?_|refine Tj ?_|intro _|refine Tc ?_|exact Tz)
   refine WC.dT rfl Om ?_
   repeat (first|refine Te ?_|(refine Tm ?_;intro _)|refine Tc ?_|exact Tz)
   refine WX.seq ?_
   repeat (first|refine Te ?_|(refine Tm ?_;intro _)|refine Tc ?_|exact Tz)
   refine WC.seq ?_
   repeat (first|refine Te ?_|(refine Tm ?_;intro _)|refine Tc ?_|exact Tz)
   refine WC.seq ?_
   repeat (first|refine Te ?_|(refine Tm ?_;intro _)|refine Tc ?_|exact Tz)
   refine WX.seq ?_
   refine WC.joinI (σ:=Unit) (fun _=>True) (fun _=>[(3,Sx.pt gZ),(4,Sx.pt gS),(5,Sx.pt gX),(9,agV gl cl i i),(10,agV gp cp i i),(11,agV gh ch i i),(12,.int .i64 (i:Int)),(13,.slice pQ P.length cQ),(14,Sx.pt gd),(15,agV gc cc k k),(16,.int .i64 (k:Int)),(17,.int .u64 ((dqP q P k:Nat):Int))])
    (fun _=>⟨gd,51,ddC ep (X,⟨gV,gY,gP,0,0,0⟩)⟩::⟨gV,24,X.V.flatMap zc++mkz 0 (zc 0)⟩::⟨gY,24,X.Y.flatMap zc++mkz 0 (zc 0)⟩::⟨gP,117,X.P.flatMap pfC++mkz 0 (sk 0 0)⟩::⟨gX,32,mxC ep (.slice pP PP.length cP) many⟩::⟨gS,36,stC p q g (exN p g a) (F:Int) (m:Int) (.slice pt ks.length c)⟩::⟨gZ,29,csC p q g h0 a (F:Int) (m:Int) (.slice pk ks.length ck)⟩::(rwL 24 gc ((dqL q P k).flatMap zc) (mkz (cc - k) (zc 0)) k++Rows i gl cl gp cp gh ch W)) ?_ (fun _ _=>?_)
   ·by_cases hkP:k<P.length
    ·obtain⟨x,hx⟩ : ∃ x,P[k]?=some x:=⟨_,List.getElem?_eq_getElem hkP⟩;have hxb:=hPn x (List.mem_of_getElem? hx);have hv:dqP q P k=x%q:=by unfold dqP;rw[if_pos hkP,List.getD_eq_getElem?_getD,hx];rfl
     have hcvx:IntKind.u64.wrap (x:Int)=(x:Int):=u64_in Om Om;have hrmx:((x:Int)).tmod ((wd 0 q:Nat):Int)=((x%q:Nat):Int):=by rw[hwq];rfl
     obtain⟨bP,oP,rfl,_,hsP⟩:=id hPr |>.get hx
     have hcP:(P.flatMap fN)[oP+k*1 - oP]?=some (.int .u32 (x:Int)):=by
      rw[Nat.add_sub_cancel_left];exact yI (j:=0) (zB (f:=fN) (k:=1) (fun _=>rfl) hx) rfl
     rw[hv];generalize x%q=v at *
     repeat (first|refine WO.does (yy rfl rfl Om) ?_|refine Tj ?_|intro _|refine Tc ?_|exact Tz)
     refine WC.adraw 11 (k:=?_)
     iterate 2 refine Dx ?_
     refine DQ.does (fun s _=>zb (o':=oP+k*1) rfl rfl hkP rfl) Dp.const ?_;refine DQ.does (fun s _=>zn (hs:=hsP) (hle:=Nat.le_add_right _ _) (hc:=hcP)) Dp.const ?_;refine DQ.does (fun s _=>zC rfl hcvx) Dp.const ?_
     iterate 4 refine Dx ?_
     refine DQ.does (fun s _=>yE rfl rfl hwq0 hrmx) Dp.const ?_;refine Dx ?_;refine DQ.anil (k:=?_);intro sx _
     repeat (first|refine Tk ?_|intro _|exact Tz)
     exact WX.metI () (hl:=by (try simp only[List.cons_append,List.nil_append]);repeat (first|exact Lle.left'|refine Lle.c ?_|refine Lle.skp ?_)) (hs:=trivial)
    ·have hv:dqP q P k=0:=by unfold dqP;rw[if_neg hkP]
     rw[hv]
     repeat (first|refine WO.does (zO rfl rfl Om) ?_|refine Tj ?_|intro _|refine Tc ?_|exact Tz)
     exact WX.metI () (hl:=by (try simp only[List.cons_append,List.nil_append]);repeat (first|exact Lle.left'|refine Lle.c ?_|refine Lle.skp ?_)) (hs:=trivial)
   have hvb:dqP q P k<18446744073709551616:=Nat.lt_trans (eH hq0 k) hq64;have hLs:(dqL q P k).flatMap zc++zc (dqP q P k)=(dqL q P (k+1)).flatMap zc:=by unfold dqL;rw[ve,List.flatMap_append];simp
   have hLl:((dqL q P k).flatMap zc).length=k*4:=by rw[zy zL,u5]
   rw[jC hvb] at hLs;generalize dqP q P k=v at *
   repeat (first|refine WO.does (zA (cs:=[.int .u64 ((v:Nat):Int),AQ 1 0,AQ 2 0,AQ 3 0]) rfl rfl Kr) ?_|(refine WO.makes (zi (cs:=[.int .u64 ((v:Nat):Int),AQ 1 0,AQ 2 0,AQ 3 0]) rfl Dt rfl) ?_;intro _)|refine Tj ?_|intro _|refine Tc ?_|exact Tz)
   refine WO.appR (z:=zc 0) (g:=gc) (c:=cc) (n:=k) (m:=1) (l:=k+1) (B:=(dqL q P k).flatMap zc) (ys:=[.int .u64 ((v:Nat):Int),AQ 1 0,AQ 2 0,AQ 3 0]) (L1:=[_,_,_,_,_,_,_,_]) (L2:=Rows i gl cl gp cp gh ch W) rfl rfl rfl rfl hLl hrc (Rds.own (m:=4) Hs.here rfl) rfl rfl Dt rfl Om Om Dt Dt (fun g1 c1 a1 a2=>?_);rw[hLs];simp only[List.cons_append,List.nil_append]
   repeat (first|refine WO.does (ze rfl rfl hadd3) ?_|refine Tj ?_|intro _|refine Tc ?_|exact Tz)
   exact WX.metI (k+1,g1,c1) (hl:=by simp only[rwL,List.cons_append,List.nil_append];repeat (first|exact Lle.left'|refine Lle.c ?_|refine Lle.skp ?_)) (hs:=⟨⟨by show k+1≤F+m;omega,fun _=>⟨a2,a1⟩⟩,by show F+m - (k+1)<F+m - k;omega⟩)
  have hk2:k=F+m:=by omega
  subst hk2;clear hlk hk;have hrc':=hrc hFm0;have hHx:=oW ep X.d X.c X.s (some ⟨gV,0,none⟩) (some ⟨gY,0,none⟩) (some ⟨gP,0,none⟩) X.V.length X.Y.length X.P.length X.V X.Y X.P Om hfit.v hfit.y hfit.p (by have:=hfit.vl;omega) (by have:=hfit.yl;omega) (by have:=hfit.pl;omega);rw[show uj ep X.d X.V X.Y X.P=ddH ep X by unfold ddH;rfl] at hHx;obtain⟨wx,hwx⟩ : ∃ wx:(Dd × Dk) × Nw,wx=((X,⟨gV,gY,gP,0,0,0⟩),⟨gc,cc,dqL q P (F+m)⟩):=⟨_,rfl⟩;have hMd:mdB (W++[wx])=⟨gc,24,(dqL q P (F+m)).flatMap zc++mkz (cc - (F+m)) (zc 0)⟩::⟨gV,24,X.V.flatMap zc++mkz 0 (zc 0)⟩::⟨gY,24,X.Y.flatMap zc++mkz 0 (zc 0)⟩::⟨gP,117,X.P.flatMap pfC++mkz 0 (sk 0 0)⟩::mdB W:=by
   rw[abX,hwx];unfold nwE;rw[hll];rfl
  have hD2:(W.map Prod.fst).flatMap (ddC ep)++ddC ep (X,⟨gV,gY,gP,0,0,0⟩)=((W++[wx]).map Prod.fst).flatMap (ddC ep):=by rw[List.map_append,List.flatMap_append,hwx];simp
  have hP2:(W.map Prod.snd).flatMap nwC++[AX gc (F+m) cc]=((W++[wx]).map Prod.snd).flatMap nwC:=by rw[List.map_append,List.flatMap_append,hwx];simp[nwC,hll]
  have hH2:(W.map fun x=>ddH ep x.1.1).flatMap byC++byC (ddH ep X)=((W++[wx]).map fun x=>ddH ep x.1.1).flatMap byC:=by rw[List.map_append,List.flatMap_append,hwx];simp
  have hDl:((W.map Prod.fst).flatMap (ddC ep)).length=i*13:=by rw[adj,List.length_map,hWl]
  have hPl2:((W.map Prod.snd).flatMap nwC).length=i*1:=by rw[zy sc,List.length_map,hWl]
  have hHl2:((W.map fun x=>ddH ep x.1.1).flatMap byC).length=i*32:=by
   clear hD2 hP2 hH2 hMd hDl hPl2 hW;rw[← hWl];clear hWl
   induction W with
   | nil=>rfl
   | cons x W ih=>rw[List.map_cons,List.flatMap_cons,List.length_append,ih,zh,uD,List.length_cons];omega
  have hcH:cut (byC (ddH ep X)) 0 32=byC (ddH ep X):=ye (by rw[zh,uD]);have hbH:(byC (ddH ep X)).length=32:=by rw[zh,uD]
  have hb32:(byC (ddH ep X)).length=1*(hzC).length:=by rw[zh,uD];rfl
  have hHl3:((W.map fun x=>ddH ep x.1.1).flatMap byC).length=i*(hzC).length:=hHl2;rw[vp hFm0,hRows];rw[yP hFm0];simp only[List.cons_append,List.nil_append]
  repeat (first|refine WO.does (ze rfl rfl hFm) ?_|refine Tj ?_|intro _|refine Tc ?_|exact Tz)
  refine WC.dF rfl Om ?_
  repeat (first|refine WO.does (zE (vs:=ddC ep (X,⟨gV,gY,gP,0,0,0⟩)) (hc:=rfl)) ?_|refine Tj ?_|intro _|refine Tc ?_|exact Tz)
  refine WO.makes (zi (cs:=ddC ep (X,⟨gV,gY,gP,0,0,0⟩)) rfl Dt rfl) ?_;intro gb;refine WO.appR (z:=dzC) (g:=gl) (c:=cl) (n:=i) (m:=1) (l:=i+1) (B:=(W.map Prod.fst).flatMap (ddC ep)) (ys:=ddC ep (X,⟨gV,gY,gP,0,0,0⟩)) (L1:=[_,_,_,_,_,_,_,_,_]) (L2:=_) rfl rfl rfl rfl hDl (fun h=>(hr h).1) (Rds.own (m:=13) Hs.here rfl) rfl rfl Dt rfl Om Om Dt Dt (fun gl2 cl2 a1 a2=>?_);rw[hD2];simp only[List.cons_append,List.nil_append]
  repeat (first|refine Tk ?_|intro _|exact Tz)
  refine WO.makes (zi (cs:=[AX gc (F+m) cc]) rfl Dt rfl) ?_;intro gb2;refine WO.appR (z:=[.slice none 0 0]) (g:=gp) (c:=cp) (n:=i) (m:=1) (l:=i+1) (B:=(W.map Prod.snd).flatMap nwC) (ys:=[AX gc (F+m) cc]) (L1:=[_,_,_,_,_,_,_,_,_,_,_]) (L2:=_) rfl rfl rfl rfl hPl2 (fun h=>(hr h).2.1) (Rds.own (m:=1) Hs.here rfl) rfl rfl Dt rfl Om Om Dt Dt (fun gp2 cp2 b1 b2=>?_);rw[hP2];simp only[List.cons_append,List.nil_append]
  repeat (first|refine WO.does (zE (vs:=ddC ep (X,⟨gV,gY,gP,0,0,0⟩)) (hc:=rfl)) ?_|refine WO.acallR (hc:=hHx) (hR:=fun wx hm=>⟨RdF.ownO (Hs.sg hm) rfl,RdF.ownO (Hs.sg hm) rfl,RdF.ownO (Hs.sg hm) rfl⟩) (k:=?_)|refine Tj ?_|intro _|refine Tc ?_|exact Tz)
  refine WO.makes (zi (cs:=byC (ddH ep X)) rfl Dt (nN hbH)) ?_;intro gb3;refine WO.appR (z:=hzC) (g:=gh) (c:=ch) (n:=i) (m:=1) (l:=i+1) (B:=(W.map fun x=>ddH ep x.1.1).flatMap byC) (ys:=byC (ddH ep X)) (L1:=[_,_,_,_,_,_,_,_,_,_,_,_,_]) (L2:=_) rfl rfl rfl rfl hHl3 (fun h=>(hr h).2.2) (Rds.own (m:=32) Hs.here hcH) hb32 (yB _) Dt rfl Om Om Dt Dt (fun gh2 ch2 c1 c2=>?_);rw[hH2];simp only[List.cons_append,List.nil_append]
  repeat (first|refine WO.does (ze rfl rfl hadd2) ?_|refine Tj ?_|intro _|refine Tc ?_|exact Tz)
  exact WX.metI (i+1,(gl2,cl2),(gp2,cp2),(gh2,ch2),W++[wx]) (hl:=by simp only[hRows,rwL,hMd,List.cons_append,List.nil_append];repeat (first|exact Lle.left'|refine Lle.c ?_|refine Lle.skp ?_)) (hs:=⟨⟨by show i+1≤mL+1;omega,⟨nJ _ _ hW.d (by rw[hwx];exact hXe),nJ _ _ hW.p (by rw[hwx];exact hLe)⟩,fun _=>⟨⟨a2,a1⟩,⟨b2,b1⟩,⟨c2,c1⟩⟩⟩,by show mL+1 - (i+1)<mL+1 - i;omega⟩)
 ·have hi2:i=mL+1:=by omega
  subst hi2;obtain⟨r1,r2,r3⟩:=hr Om;rw[hRows];dsimp only[agV,rwL]
  repeat (first|refine WO.does (zC rfl hcvm) ?_|refine WO.does (yE rfl rfl Om hrmm) ?_|refine Tj ?_|intro _|refine Tc ?_|exact Tz)
  refine WC.dF rfl Om ?_
  repeat (first|refine Tk ?_|intro _|exact Tz)
  exact WX.ret3 rfl Rv.t Rv.t Rv.t _ (by repeat (first|exact Lle.left'|refine Lle.skp ?_)) ⟨gl,cl,gp,cp,gh,ch,W,rfl,rfl,hW,r1,r2,r3⟩
end
end Sx
end
section
open Go Go.RowKit Go.BigFrame
namespace Sx
section
variable {P:Program} {w0:World} {gs:LN} {n:Nat} {ops:List Oper} {Q:Exit→Act→World→Prop} {K:List (Nat × Value)} {rest:List Oper}
theorem WO.swap {A T:List Ent} (k:WO P w0 gs n ops Q K (A++T) rest):WO P w0 gs n ops Q K (T++A) rest:=fun a w h1 h2 h3 h4=>k a w h1 h2 h3 (h4.perm List.perm_append_comm)
theorem WO.behind {R M:List Ent} (X:List Ent) (k:WO P w0 gs n ops Q K (X++(R++M)) rest):WO P w0 gs n ops Q K (R++(X++M)) rest:=fun a w h1 h2 h3 h4=>k a w h1 h2 h3 (h4.perm (List.perm_append_comm_assoc R X M))
end
section
variable {p q g a F m:Nat} {ks:LP} {ep n:Nat} {PP:List Rr} {W:List ((Dd × Dk) × Nw)}
theorem qu.get (k:qu p q g a F m ks ep PP n W) {i:Nat} {y:Dd × Dk} (h:(W.map Prod.fst)[i]?=some y):i<n∧y.1=dqX p q g a F m ks ep i (rrP PP i):=by
 have h1:(W.map fun x=>x.1.1)[i]?=some y.1:=by
  rw[List.getElem?_map] at h ⊢;cases hw:W[i]? with
  | none=>rw[hw] at h;cases h
  | some w=>rw[hw] at h;cases h;rfl
 rw[k.d,List.getElem?_map] at h1
 rcases Nat.lt_or_ge i n with hi|hi
 ·rw[List.getElem?_range hi] at h1;exact⟨hi,(Option.some.inj h1).symm⟩
 ·rw[List.getElem?_eq_none (by simpa using hi)] at h1;cases h1
theorem qu.len (k:qu p q g a F m ks ep PP n W):W.length=n:=by have:=congrArg List.length k.d;simpa using this
theorem qu.hs (k:qu p q g a F m ks ep PP n W):(W.map fun x=>ddH ep x.1.1)=(W.map Prod.fst).map fun y=>ddH ep y.1:=by rw[List.map_map];rfl
theorem cn (hc:qb p q g a (F:Int) (m:Int) ks) (hp:p<zd) (hq:q<zd) (hep:ep<18446744073709551616) (lP:Nat→List Nat) :
  ∃ O:Nat→Nat→Od,∀ i,i<100→∀ t,t<ks.length→OpF p q g (exN p g a) (F:Int) (m:Int) (csN p g a ks) ep (i+1) (lP i) (ks.map Prod.snd) (O i) t:=by
 have h:=fun i=>if hi:i<100 then (⟨_,fun _=>(aS hc (d:=i+1) hp hq hep Om (lP i)).choose_spec⟩ : ∃ O:Nat→Od,i<100→∀ t,t<ks.length→OpF p q g (exN p g a) (F:Int) (m:Int) (csN p g a ks) ep (i+1) (lP i) (ks.map Prod.snd) O t) else ⟨fun _=>od0,fun h=>absurd h hi⟩
 exact⟨fun i=>(h i).choose,fun i hi t ht=>(h i).choose_spec hi t ht⟩
theorem adk (i:Nat) (hi:i<ks.length) (P:LN) (x:Od) (lP:Nat→List Nat) (hl:lP i=dqL q P (F+m)):ckY p q g (exN p g a) F m (csN p g a ks) ep (dqX p q g a F m ks ep i P) x=ckO p q g (exN p g a) (F:Int) (m:Int) (csN p g a ks) ep lP i x:=by
 unfold ckY ckO;rw[hl,yT];show eB p q g (exN p g a) (F:Int) (m:Int) (csN p g a ks) ep (dqD ks.length i) _ _ _ _ _ _ _=_;rw[tN hi];rfl
theorem acw (hc:qb p q g a (F:Int) (m:Int) ks) (hp:p<zd) (hq:q<zd) (lP:Nat→List Nat) (hlP:∀ i,lP i=dqL q (rrP PP i) (F+m)) (kW:qu p q g a F m ks ep PP n W) (hn:n≤ks.length) {O:Nat→Nat→Od} (hO:∀ i,i<100→∀ t,t<ks.length→OpF p q g (exN p g a) (F:Int) (m:Int) (csN p g a ks) ep (i+1) (lP i) (ks.map Prod.snd) (O i) t)
  {ls:List Od} {SH:List Sw} {s many:Nat} (hls:∀ i,i<n→∀ x∈ls,ckO p q g (exN p g a) (F:Int) (m:Int) (csN p g a ks) ep lP i x=true→x∈nE O ks.length s many n) (hSH:∀ x∈SH,x.e=ep→∀ i,i<n→x.d=i+1→x.P=lP i) {i:Nat} {y:Dd × Dk} (hy:(W.map Prod.fst)[i]?=some y) :
  WyH p q g (exN p g a) F m (csN p g a ks) ep ls SH y.1 (lP i):=by
 obtain⟨hi,hyX⟩:=kW.get hy;obtain⟨hn1,hn7,hnq,hf0,hsec1,hfs,hmg,hmh⟩:=ya hc.set;have hk7:=hc.len;have hk0:0<ks.length:=by omega
 have hq0:0<q:=by omega
 have hNl:=yT p g a ks;have hll:(lP i).length=F+m:=by rw[hlP,u5]
 have hall:v8 q (lP i)=true:=by rw[hlP];exact eG Om
 have hc1:∀ x,ckY p q g (exN p g a) F m (csN p g a ks) ep y.1 x=ckO p q g (exN p g a) (F:Int) (m:Int) (csN p g a ks) ep lP i x:=fun x=>by rw[hyX];exact adk i Om _ x lP (hlP i)
 have hOi:=hO i Om;have hyd:y.1.d=i+1:=by rw[hyX];exact tN Om
 refine⟨by rw[hyX];exact cr hk0 Om,by rw[hyX];exact ad8 hp hq hq0,by rw[hyd];omega,by rw[hyX];exact ago hc hk0,hll,fun x hx hs=>?_,fun _=>?_⟩
 ·unfold swB at hs;rw[Bool.and_eq_true,decide_eq_true_eq,decide_eq_true_eq,hyd] at hs;have hxP:=hSH x hx hs.1 i hi hs.2;rw[hxP];refine⟨?_,?_,rfl⟩
  ·have h1:=aaH (m:=lP i) hc.pri hc.set (l:=lP i) (by rw[hll];omega) hall;rw[decide_eq_true rfl] at h1;rw[hyX];show afc p q g (exN p g a) (F:Int) (m:Int) (csN p g a ks) (dVs p q g (dqL q (rrP PP i) (F+m)) ks.length) (lP i)=true;rw[← hlP,← hNl];exact h1
  ·unfold mq;rw[hc.set,hall,hll,decide_eq_true Om];rfl
 ·rw[show ckY p q g (exN p g a) F m (csN p g a ks) ep y.1=ckO p q g (exN p g a) (F:Int) (m:Int) (csN p g a ks) ep lP i from funext hc1,hyd];refine abW (N:=csN p g a ks) (X:=ks.map Prod.snd) (f:=(F:Int)) (sec:=(m:Int)) (g:=g) (O:=O i) (fun t ht=>hOi t (by rw[hNl] at ht;exact ht)) (fun x hx hck=>?_);have h1:=hls i hi x hx hck;rw[← hNl] at h1;obtain⟨k,_,rfl⟩:=adO (mL:=n) (by rw[hNl];exact hk0) (fun j hj t ht=>hO j Om t (by rw[hNl] at ht;exact ht)) h1 hck;exact⟨_,Nat.mod_lt _ (by rw[hNl];exact hk0),rfl⟩
theorem bE (hc:qb p q g a (F:Int) (m:Int) ks) (lP:Nat→List Nat) (hlP:∀ i,lP i=dqL q (rrP PP i) (F+m)) (kW:qu p q g a F m ks ep PP n W) (hn:n≤ks.length) {O:Nat→Nat→Od} (hO:∀ i,i<100→∀ t,t<ks.length→OpF p q g (exN p g a) (F:Int) (m:Int) (csN p g a ks) ep (i+1) (lP i) (ks.map Prod.snd) (O i) t)
  {ls:List Od} {s many:Nat} (hls:∀ x∈nE O ks.length s many n,x∈ls) (hm:F+m≤many) (hmn:many≤ks.length) {i:Nat} {y:Dd × Dk} (hy:(W.map Prod.fst)[i]?=some y) :
  decide (F+m≤(tp (ckY p q g (exN p g a) F m (csN p g a ks) ep y.1) ls).length)=true:=by
 obtain⟨hi,hyX⟩:=kW.get hy;obtain⟨hn1,hn7,_⟩:=ya hc.set;have hk7:=hc.len;have hNl:=yT p g a ks;have hk0:0<ks.length:=by omega
 have hc1:∀ x,ckY p q g (exN p g a) F m (csN p g a ks) ep y.1 x=ckO p q g (exN p g a) (F:Int) (m:Int) (csN p g a ks) ep lP i x:=fun x=>by rw[hyX];exact adk i Om _ x lP (hlP i)
 rw[show ckY p q g (exN p g a) F m (csN p g a ks) ep y.1=ckO p q g (exN p g a) (F:Int) (m:Int) (csN p g a ks) ep lP i from funext hc1];have:=abS (N:=csN p g a ks) (s:=s) (many:=many) (mL:=n) (by rw[hNl];exact hk0) (by rw[hNl];exact hmn) (fun j hj t ht=>hO j Om t (by rw[hNl] at ht;exact ht)) (i:=i) (ls:=ls) (fun k hk=>by rw[hNl];exact hls _ (aex hi hk)) hi;exact decide_eq_true Om
end
theorem Hs.of_mem2 {L:List Ent} {g t:Nat} {cs:LV} (h:(⟨g,t,cs⟩ : Ent)∈L):Hs L g t cs:=by
 induction L with
 | nil=>cases h
 | cons e L ih =>
  rcases List.mem_cons.1 h with h|h
  ·rw[← h];exact .here
  ·exact .there (ih h)
theorem Lle.skpL {N L:List Ent}:∀ R:List Ent,Lle N L→Lle N (R++L)
 | [],h=>h
 | _::R,h=>Lle.skp (Lle.skpL R h)
theorem aar {W:List ((Dd × Dk) × Nw)} {w:World} (h:∀ e∈mdB W,e.ok w):∀ y∈W.map Prod.fst,aR w y.1 y.2:=fun y hy=>by
 obtain⟨x,hx,rfl⟩:=List.mem_map.1 hy;exact aR.of fun e he=>h e (agY hx he)
theorem acz {W:List ((Dd × Dk) × Nw)} {w:World} (h:∀ e∈mdB W,e.ok w):∀ z∈W.map Prod.snd,RdF zc (AX z.g z.xs.length z.c) z.xs w:=fun z hz=>by
 obtain⟨x,hx,rfl⟩:=List.mem_map.1 hz;exact gj (h _ (agJ hx))
end Sx
end
section
open Go Go.RowKit Go.BigFrame
namespace Sx
attribute [local irreducible] DQ WC WO WX uj ddH hOf wd
theorem ahT:Fn Tryz.prog 14 [stV 0 0 0 0 0 0 (.slice none 0 0),.int .u64 1,.slice none 0 0,.slice none 0 0] Tr (Is (.tuple #[.slice none 0 0,.int .i64 1])):=by
 have hS:=z8 0 0 0 0 0 0 none 0 [] Dt Dt Dt Dt (fun k hk=>by simp at hk) Sm Dt Dt Dt Dt;rw[show yW 0 0 0 0 0 0 []=false by decide] at hS;refine Fn.enter Tryz.func14 rfl rfl rfl ?_;intro w hw
 repeat (first|refine Tj ?_|intro _|refine WO.acallR (hc:=hS) (hR:=fun wx hm=>⟨none,0,rfl,.inl ⟨rfl,rfl⟩⟩) (k:=?_)|refine Tc ?_|exact Tz)
 done
theorem afU:Fn Tryz.prog 11 [stV 0 0 0 0 0 0 (.slice none 0 0),.slice none 0 0,evV (.slice none 0 0) (.slice none 0 0) (.slice none 0 0)] Tr (Is (.tuple #[.slice none 0 0,.int .i64 1])) :=
 (jp 0 0 0 0 none 0 [] 0 0 (.slice none 0 0) (.slice none 0 0) (.slice none 0 0) (.slice none 0 0) Dt Dt Dt Dt (fun k hk=>by simp at hk) Sm Dt Dt Dt Dt Dt).weak (fun w _=>⟨none,0,rfl,.inl ⟨rfl,rfl⟩⟩) (fun _ _ h=>h)
theorem eC:Fn Tryz.prog 9 [] Tr (Is (.bool true)):=by
 have h1:=ahT;have h2:=afU;refine Fn.enter Tryz.func9 rfl rfl rfl ?_;intro w hw
 repeat (first|refine Tj ?_|intro _|refine WO.acall (hc:=h1) (k:=?_)|refine WO.acall (hc:=h2) (k:=?_)|refine Tc ?_|exact Tz)
 done
end Sx
end
end Go.Proofs.YtiaibpcaloigkaaGreatDoor
