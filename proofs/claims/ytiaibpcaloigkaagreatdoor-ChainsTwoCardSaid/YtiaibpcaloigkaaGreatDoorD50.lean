/- Part 50 of the proof. -/
import Derived.Test.YtiaibpcaloigkaaGreatDoorD48
import Derived.Test.YtiaibpcaloigkaaGreatDoorD49
set_option linter.unusedSimpArgs false
set_option linter.unusedVariables false
set_option maxHeartbeats 8000000
namespace Go.Proofs.YtiaibpcaloigkaaGreatDoor
section
open Go Go.RowKit Go.BigFrame
namespace Sx
attribute [local irreducible] DQ WC WO WT WX vi ddH hOf wd
def neE (b:Bool) (e:Int):Int:=if b then 0 else e
theorem kh (gf:Nat) (b:Bool) (e:Int) (he:e≠0):FnL Tryz.prog 55 [.bool b,.int .i64 e,Sx.pt gf] [⟨gf,54,[.int .i64 0]⟩] Tr (fun v N=>v=.bool b∧N=[⟨gf,54,[.int .i64 (neE b e)]⟩]):=by
 refine FnL.enter Tryz.func55 rfl rfl rfl ?_;intro w _;cases b with
 | true =>
  repeat (first|refine WO.does (zM rfl rfl rfl) ?_|refine Tj ?_|intro _|refine Tc ?_|exact Tz)
  exact WX.retP_of (N:=[⟨gf,54,[.int .i64 0]⟩]) (ab2 rfl (zP rfl)) Lle.left' ⟨rfl,rfl⟩
 | false =>
  repeat (first|refine WO.does (zM rfl rfl rfl) ?_|refine WO.does (zS rfl rfl he) ?_|refine Tj ?_|intro _|refine Tc ?_|exact Tz)
  exact WX.retP_of (N:=[⟨gf,54,[.int .i64 e]⟩]) (ab2 rfl (zP rfl)) Lle.left' ⟨rfl,rfl⟩
section
variable (ep:Nat) (pD:Option Addr) (cD:Nat) (T:List (Dd × Dk))
theorem ad1 (hd:∀ (i:Nat) (y:Dd × Dk),T[i]?=some y→y.1.d=i+1) (hl:T.length≤100):Fn Tryz.prog 56 [.slice pD T.length cD,.int .u64 (ep:Int)] (RdF (ddC ep) (.slice pD T.length cD) T) (Is (.bool true)):=by
 refine Fn.enter Tryz.func56 rfl rfl rfl ?_;intro w hw
 repeat (first|refine Tk ?_|intro _|exact Tz)
 refine WC.loopI (σ:=Nat) (fun i=>i≤T.length) (fun i=>[(1,.int .u64 (ep:Int)),(4,.bool false),(5,.int .u8 (i:Int)),(8,.slice pD T.length cD),(9,.int .i64 (T.length:Int)),(10,.int .i64 (i:Int))])
  (fun _=>[]) (fun i=>T.length - i) 0 (fun i hi=>?_) (Nat.zero_le _)
 try dsimp only at hi ⊢
 by_cases hlt:i<T.length
 ·obtain⟨y,hy⟩ : ∃ y,T[i]?=some y:=⟨_,List.getElem?_eq_getElem hlt⟩;obtain⟨bD,oD,rfl,_,hsD⟩:=id hw |>.get hy
  have hyd:=hd i y hy;have hadd:IntKind.i64.wrap ((i:Int)+1)=((i+1:Nat):Int):=zl Om Om Om
  repeat (first|refine Tk ?_|intro _|exact Tz)
  refine WC.dT rfl Om ?_
  repeat (first|refine WO.does (zb (o':=oD+i*13) rfl rfl hlt rfl) ?_|refine WO.does (zm (vs:=ddC ep y) (hs:=hsD) (hle:=Nat.le_add_right _ _) (hc:=oc hy)) ?_|refine WO.does (rG rfl rfl Om) ?_|refine WO.does (zA rfl rfl rfl) ?_|refine WO.does (zj rfl rfl hadd) ?_|refine Tj ?_|intro _|refine Tc ?_|exact Tz)
  rw[hyd];exact WX.metI (i+1) (hs:=⟨by show i+1≤T.length;omega,by show T.length - (i+1)<T.length - i;omega⟩)
 have hi2:i=T.length:=by omega
 subst hi2
 repeat (first|refine Tk ?_|intro _|exact Tz)
 refine WC.dF rfl Om ?_
 repeat (first|refine Tk ?_|intro _|exact Tz)
 done
end
section
variable (p1 p2:Option Addr) (c1 c2:Nat) (A B:List (List Nat))
theorem cI (hA:∀ X∈A,X.length=32∧∀ b∈X,b<256) (hB:∀ X∈B,X.length=32∧∀ b∈X,b<256) (hl:A.length=B.length) (hn:A.length≤100) :
  Fn Tryz.prog 59 [.slice p1 A.length c1,.slice p2 A.length c2] (fun w=>RdF byC (.slice p1 A.length c1) A w∧RdF byC (.slice p2 A.length c2) B w) (Is (.bool (decide (A=B)))):=by
 refine Fn.enter Tryz.func59 rfl rfl rfl ?_;intro w hw;obtain⟨w1,w2⟩:=hw
 repeat (first|refine WO.does (zA rfl rfl rfl) ?_|refine Tj ?_|intro _|refine Tc ?_|exact Tz)
 refine WC.loopI (σ:=Nat) (fun i=>i≤A.length∧A.take i=B.take i) (fun i=>[(0,.slice p1 A.length c1),(1,.slice p2 A.length c2),(4,.bool false),(12,.int .i64 (A.length:Int)),(13,.int .i64 (i:Int))])
  (fun _=>[]) (fun i=>A.length - i) 0 (fun i hi=>?_) ⟨Nat.zero_le _,rfl⟩
 obtain⟨hi,hT⟩:=hi
 try dsimp only at hi hT ⊢
 by_cases hlt:i<A.length
 ·obtain⟨X,hX⟩ : ∃ X,A[i]?=some X:=⟨_,List.getElem?_eq_getElem hlt⟩;obtain⟨Y,hY⟩ : ∃ Y,B[i]?=some Y:=⟨_,List.getElem?_eq_getElem Om⟩;obtain⟨b1,o1,rfl,_,s1⟩:=id w1 |>.get hX
  obtain⟨b2,o2,rfl,_,s2⟩:=id w2 |>.get hY
  obtain⟨x1,x2⟩:=hA X (List.mem_of_getElem? hX);obtain⟨y1,y2⟩:=hB Y (List.mem_of_getElem? hY);have hc1:cut (A.flatMap byC) (o1+i*32 - o1) 32=byC X:=by
   rw[Nat.add_sub_cancel_left];exact ua (k:=32) (fun x hx=>by rw[zd,(hA x hx).1]) hX
  have hc2:cut (B.flatMap byC) (o2+i*32 - o2) 32=byC Y:=by
   rw[Nat.add_sub_cancel_left];exact ua (k:=32) (fun x hx=>by rw[zd,(hB x hx).1]) hY
  have l1:(byC X).length=32:=by rw[zd,x1]
  have l2:(byC Y).length=32:=by rw[zd,y1]
  have hadd:IntKind.i64.wrap ((i:Int)+1)=((i+1:Nat):Int):=zl Om Om Om;have hAt:A.take (i+1)=A.take i++[X]:=by rw[List.take_add_one,hX];rfl
  have hBt:B.take (i+1)=B.take i++[Y]:=by rw[List.take_add_one,hY];rfl
  repeat (first|refine Tk ?_|intro _|exact Tz)
  refine WC.dT rfl Om ?_;obtain⟨b,hb⟩ : ∃ b,(!decide (X=Y))=b:=⟨_,rfl⟩
  repeat (first|refine Tk ?_|intro _|exact Tz)
  refine WC.adraw 9 (k:=?_)
  iterate 9 (first|refine DQ.does (fun s _=>zb (o':=o1+i*32) rfl rfl hlt rfl) Dp.const ?_|refine DQ.does (fun s _=>zb (o':=o2+i*32) rfl rfl hlt rfl) Dp.const ?_|refine DQ.does (fun s _=>zm (vs:=byC X) (hs:=s1) (hle:=Nat.le_add_right _ _) (hc:=hc1) (hl:=l1)) Dp.const ?_|refine DQ.does (fun s _=>zm (vs:=byC Y) (hs:=s2) (hle:=Nat.le_add_right _ _) (hc:=hc2) (hl:=l2)) Dp.const ?_|refine DQ.does (fun s _=>tE x2 y2 x1 y1 rfl rfl hb) Dp.const ?_|refine Da ?_|refine Dc ?_)
  refine DQ.anil (k:=?_);intro sx _;cases b with
  | false =>
   have hXY:X=Y:=by simpa using hb
   repeat (first|refine WO.does (zj rfl rfl hadd) ?_|refine Tj ?_|intro _|refine Tc ?_|exact Tz)
   exact WX.metI (i+1) (hs:=⟨⟨by show i+1≤A.length;omega,by show A.take (i+1)=B.take (i+1);rw[hAt,hBt,hT,hXY]⟩,by show A.length - (i+1)<A.length - i;omega⟩)
  | true =>
   have hXY:¬ X=Y:=by simpa using hb
   have hne:A≠B:=fun e=>by
    rw[e,hY] at hX;exact hXY (Option.some.inj hX).symm
   rw[decide_eq_false hne]
   repeat (first|refine Tk ?_|intro _|exact Tz)
   done
 have hi2:i=A.length:=by omega
 have hAB:A=B:=by
  rw[hi2,List.take_length,hl,List.take_length] at hT;exact hT
 rw[decide_eq_true hAB,hi2]
 repeat (first|refine Tk ?_|intro _|exact Tz)
 refine WC.dF rfl Om ?_
 repeat (first|refine Tk ?_|intro _|exact Tz)
 done
end
theorem RdF.modF {α:Type} {f:α→List Value} {pt:Option Addr} {n c:Nat} {xs:List α} {w w' : World} {gs:LN} (h:RdF f (.slice pt n c) xs w) (hm:Mod gs w w') (hb:∀ a,pt=some a→a.block ∉ gs):RdF f (.slice pt n c) xs w':=by
 obtain⟨p,c',e,h1⟩:=h;cases e;refine⟨_,_,rfl,?_⟩
 rcases h1 with h1|⟨b,o,rfl,hs⟩
 ·exact .inl h1
 ·exact .inr ⟨b,o,rfl,hs.mod hm (hb _ rfl)⟩
def bkC (ep:Nat) (ah:LN) (cep:Nat) (sD sV sO:Value):List Value:=.int .u64 (ep:Int)::(byC ah++[.int .u64 (cep:Int),sD,sV,sO])
section
variable {ep cep:Nat} {ah:LN} {sD sV sO:Value}
theorem jw (h:ah.length=32):(bkC ep ah cep sD sV sO).length=37:=by unfold bkC;rw[List.length_cons,List.length_append,zd,h];rfl
theorem jQ (h:ah.length=32) (j:Nat):(bkC ep ah cep sD sV sO)[33+j]?=[.int .u64 (cep:Int),sD,sV,sO][j]?:=by
 have hb:(byC ah).length=32:=by rw[zd,h]
 unfold bkC;rw[show 33+j=(32+j)+1 from by omega,List.getElem?_cons_succ,List.getElem?_append_right Om,hb,Nat.add_sub_cancel_left]
theorem afm (h:ah.length=32):cut (bkC ep ah cep sD sV sO) 1 32=byC ah:=by
 have hb:(byC ah).length=32:=by rw[zd,h]
 show cut (byC ah++_) 0 32=_;unfold cut;rw[List.drop_zero,← hb,List.take_left]
theorem afj (h:ah.length=32):cut (bkC ep ah cep sD sV sO) 33 3=[.int .u64 (cep:Int),sD,sV]:=by
 have hb:(byC ah).length=32:=by rw[zd,h]
 show cut (byC ah++_) 32 3=_;unfold cut;rw[← hb,List.drop_left];rfl
theorem ny (h1:sD.oneCell'=true) (h2:sV.oneCell'=true) (h3:sO.oneCell'=true):(bkC ep ah cep sD sV sO).all Value.oneCell'=true:=by
 unfold bkC;rw[List.all_cons,List.all_append,zZ];simp[h1,h2,h3];exact⟨rfl,rfl⟩
end
def vaL (p q h m:Nat) (ep:Nat) (HL:List (List Nat)) (n:Nat) (lP:Nat→List Nat):List (List Nat):=(List.range m).map (ofV ep (hOf (zN sd) HL) ((List.range n).map fun i=>osL p q h (lP i) m))
theorem kC (p q h m:Nat) (ep:Nat) (HL:List (List Nat)) (n:Nat) (lP:Nat→List Nat):(vaL p q h m ep HL n lP).flatMap byC=ofB ep (hOf (zN sd) HL) ((List.range n).map fun i=>osL p q h (lP i) m) m:=by
 unfold vaL ofB;rw[List.flatMap_map]
theorem oh (p q h m:Nat) (ep:Nat) (HL:List (List Nat)) (n:Nat) (lP:Nat→List Nat):(vaL p q h m ep HL n lP).length=m:=by simp[vaL]
theorem iW {p q h m:Nat} {ep:Nat} {HL:List (List Nat)} {n:Nat} {lP:Nat→List Nat}:∀ X∈vaL p q h m ep HL n lP,X.length=32∧∀ b∈X,b<256:=fun X hX=>by
 obtain⟨i,_,rfl⟩:=List.mem_map.1 hX;exact⟨zO _ _,vP _ _⟩
section
variable (p q g h F m:Nat) (pt:Option Addr) (c:Nat) (N:LP) (ep:Nat) (ah:LN) (pH:Option Addr) (cH:Nat) (HL:List (List Nat)) (sV sO:Value) (gO cO:Nat) (Z:List Nw)
theorem acy (hp:p<ze) (hq:q<ze) (hg:g<ze) (hh:h<ze) (hN:zY N) (hNl:N.length≤100) (hs:yX p q g h (F:Int) (m:Int) N=true) (hF:F≤10) (hm:m≤10) (hm0:0<m) (hah:ah.length=32)
  (h0:0<HL.length) (hn:HL.length≤100) (h32:∀ H∈HL,H.length=32) (hb:∀ H∈HL,∀ b∈H,b<256) (hZn:Z.length=HL.length) (hZm:∀ z∈Z,z.xs.length=m) :
  Fn Tryz.prog 60 [stV p q g h (F:Int) (m:Int) (.slice pt N.length c),.agg (bkC ep ah ep (.slice pH HL.length cH) sV sO).toArray,AQ gO HL.length cO]
   (fun w=>RdF ym (.slice pt N.length c) N w∧RdF byC (.slice pH HL.length cH) HL w∧aeF (AQ gO HL.length cO) Z w) (fun v L=>∃ g c,v=AQ g m m∧L=[⟨g,70,ofB ep (hOf (zN sd) HL) (Z.map Nw.xs) m++mkz (c - m) hzC⟩]):=by
 have hO:=aed p q g h F m pt c N ep pH cH HL (some ⟨gO,0,none⟩) cO Z hp hq hg hh hN hNl hs hF hm hm0 h0 hn h32 hb hZn hZm;have hD:=jQ (ep:=ep) (cep:=ep) (sD:=.slice pH HL.length cH) (sV:=sV) (sO:=sO) hah 1;refine Fn.enter Tryz.func60 rfl rfl rfl ?_;intro w hw;obtain⟨w1,w2,w3⟩:=hw
 repeat (first|refine WO.does (zD (hc:=hD)) ?_|refine Tj ?_|intro _|refine Tc ?_|exact Tz)
 refine WO.calls (fs:=[]) (cs:=[]) hO rfl rfl rfl (fun wx hm=>⟨w1.mod hm.mod,w2.mod hm.mod,w3.mod hm.mod⟩) (fun v N' hv=>?_);obtain⟨gV,cV,rfl,rfl⟩:=hv;simp only[List.cons_append,List.nil_append]
 repeat (first|refine Tk ?_|intro _|exact Tz)
 exact WX.ret1 rfl Rv.t [_] (Lle.c Lle.nil) ⟨gV,cV,rfl,rfl⟩
end
theorem aah (gB gf:Nat) (ep cep:Nat) (ah:LN) (sD sV:Value) (p1 pO:Option Addr) (c1 cO:Nat) (A OL:List (List Nat)) (w:World) (hah:ah.length=32) (hA:∀ X∈A,X.length=32∧∀ b∈X,b<256) (hB:∀ X∈OL,X.length=32∧∀ b∈X,b<256) (hl:A.length=OL.length) (hn:A.length≤100)
  (hf:(⟨gf,54,[.int .i64 0]⟩ : Ent).ok w) (hb:Seg w gB 0 (bkC ep ah cep sD sV (.slice pO OL.length cO))) (hne:gB≠gf) (h1:RdF byC (.slice p1 A.length c1) A w) (h2:RdF byC (.slice pO OL.length cO) OL w) (hf1:∀ a,p1=some a→a.block≠gf) (hf2:∀ a,pO=some a→a.block≠gf) :
  CallsD Tryz.prog 58 ([.slice p1 A.length c1,Sx.pt gB,Sx.pt gf]:LV).toArray .returning w (fun e u' w'=>u'=.returning∧pL w [gf] (fun _ N=>N=[⟨gf,54,[.int .i64 (neE (decide (A=OL)) 11)]⟩]) e w'):=by
 have hE:=cI p1 pO c1 cO A OL hA hB hl hn;have hN:=kh gf (decide (A=OL)) 11 Dt;have hO:=jQ (ep:=ep) (cep:=cep) (sD:=sD) (sV:=sV) (sO:=.slice pO OL.length cO) hah 3;have hS1:RdF byC (.slice p1 A.length c1) A w:=h1;generalize decide (A=OL)=b at *;refine np (L:=[⟨gf,54,[.int .i64 0]⟩]) Tryz.func58 rfl rfl rfl (by simpa using hf) Sm ?_;rw[show OL.length=A.length from hl.symm] at hO h2 hb
 repeat (first|refine WO.does (zn (hs:=hb) (hle:=Nat.zero_le _) (hb:=by simpa using hne) (hc:=hO)) ?_|refine Tj ?_|intro _|refine Tc ?_|exact Tz)
 refine WO.acallR (hc:=hE) (hR:=fun wx hm=>⟨h1.modF hm.mod (fun a ha=>by simpa using hf1 a ha),h2.modF hm.mod (fun a ha=>by simpa using hf2 a ha)⟩) (k:=?_);refine WO.callsL (hc:=hN) (hp:=.cons .here .nil) (fun _ _=>trivial) (fun v N hv=>?_);obtain⟨rfl,rfl⟩:=hv;simp only[List.append_nil]
 repeat (first|refine Tk ?_|intro _|exact Tz)
 exact WX.retP_ofN (N:=[⟨gf,54,[.int .i64 (neE b 11)]⟩]) (iI rfl) Lle.left' rfl
end Sx
end
section
open Go Go.RowKit Go.BigFrame
namespace Sx
attribute [local irreducible] DQ WA WC WO WT WX vi ddH hOf wd
theorem jZ (v:Value) (gB gf:Nat) (w:World):(invoke (.fn (.func 58) #[Sx.pt gB,Sx.pt gf]) #[v]).run Tryz.prog w=.ok (.enter 58 ([v,Sx.pt gB,Sx.pt gf]:LV).toArray) w:=Kr
section
variable (p q g h F m:Nat) (pt:Option Addr) (c:Nat) (N:LP) (ep:Nat) (ah:LN) (pH:Option Addr) (cH:Nat) (HL:List (List Nat)) (pV:Option Addr) (cV:Nat) (VL:List Vt) (pO:Option Addr) (cO:Nat) (OL:List (List Nat)) (pD:Option Addr) (cD:Nat) (T:List (Dd × Dk)) (pE:Option Addr) (cE:Nat) (pS:Option Addr) (cS:Nat) (SH:List Sw)
theorem aca (v a:Nat) (lP:Nat→List Nat) (hp:p<ze) (hq:q<ze) (hg:g<ze) (hh:h<ze) (hN:zY N) (hNl:N.length≤100) (hs:yX p q g h (F:Int) (m:Int) N=true) (hep:ep<18446744073709551616) (hah:ah.length=32) (hab:∀ b∈ah,b<256)
  (hHl:HL.length=T.length) (hHL:HL=T.map fun y=>ddH ep y.1) (hT0:0<T.length) (hTl:T.length≤100) (hTd:∀ (i:Nat) (y:Dd × Dk),T[i]?=some y→y.1.d=i+1) (hnF:N.length≤T.length+F)
  (hVt:acS p q g N ep v a (hOf (zN sd) HL) VL) (hV0:0<VL.length) (hVl:VL.length≤100) (ha:a≤100) (hQr:(N.length+F) / 2+1≤VL.length)
  (hOl:OL.length=m) (hOk:∀ X∈OL,X.length=32∧∀ b∈X,b<256) (hSl:SH.length≤1000) (hSn:∀ x∈SH,(∀ a∈x.P,a<ze)∧x.P.length≤100)
  (hW:∀ i y,T[i]?=some y→WyH p q g h F m N ep [] SH y.1 (lP i)) (hwB:∀ (i:Nat) (y:Dd × Dk),T[i]?=some y→wB p q g h F m N ep [] SH y.1=true) :
  Fn Tryz.prog 25 [stV p q g h (F:Int) (m:Int) (.slice pt N.length c),.agg (byC ah).toArray,.agg (bkC ep ah ep (.slice pH T.length cH) (.slice pV VL.length cV) (.slice pO OL.length cO)).toArray,evV (.slice pD T.length cD) (.slice pE 0 cE) (.slice pS SH.length cS)]
   (fun w=>RdF ym (.slice pt N.length c) N w∧EvR ep pD cD T pE cE [] pS cS SH w∧RdF byC (.slice pH T.length cH) HL w∧RdF vtC (.slice pV VL.length cV) VL w∧RdF byC (.slice pO OL.length cO) OL w∧si w) (Is (.int .i64 (neE (decide (vaL p q h m ep HL T.length lP=OL)) 11))):=by
 obtain⟨s1,s7,_,s0,s2,s5,s8,_⟩:=zX hs;have h32:∀ H∈HL,H.length=32:=fun H hH=>by
  rw[hHL] at hH;obtain⟨x,_,rfl⟩:=List.mem_map.1 hH;exact vR _ _
 have hHb:∀ H∈HL,∀ b∈H,b<256:=fun H hH=>by
  rw[hHL] at hH;obtain⟨x,_,rfl⟩:=List.mem_map.1 hH;exact kf _ _
 have hSt:=yn p q g h (F:Int) (m:Int) pt c N hp hq hg hh hN Om Om Om Om Om;rw[hs] at hSt;have hRi:=ad1 ep pD cD T hTd hTl;have hSet:=fI pH cH HL Om Om h32 hHb;rw[hHl] at hSet;have hSl2:(hOf (zN sd) HL).length=32:=zO _ _;have hSb2:∀ b∈hOf (zN sd) HL,b<256:=vP _ _;have hCe:=adC p q g h F m pt c N ep v a (hOf (zN sd) HL) pV cV VL hp hq hg hh hN hNl hs hVt hVl ha hSl2 hSb2;rw[decide_eq_true hQr] at hCe;have hSec:=sX p q g h F m pt c N ep pD cD T pE cE [] pS cS SH pH cH HL lP true hp hq hg hh hN hNl hs Om Om hep hSl hSn hT0 Om hHL hW (fun i y hy _=>hwB i y hy) (fun i y bD oD e2 d2 s2 hy=>by
  have:=qF p q g h F m pt c N ep y (some ⟨bD,oD,none⟩) cD T pE cE pS cS SH e2 d2 s2 (osL p q h (lP i) m) Om Om Om;rw[show decide (F+m≤(aa3 (ckY p q g h F m N ep y.1) []).length)=false from decide_eq_false (by show ¬ F+m≤0;omega)];exact this)
 have hVal:=fun (gO cO' : Nat) (Z:List Nw) (h1:Z.length=HL.length) (h2:∀ z∈Z,z.xs.length=m)=>acy p q g h F m pt c N ep ah pH cH HL (.slice pV VL.length cV) (.slice pO OL.length cO) gO cO' Z hp hq hg hh hN hNl hs Om Om Om hah Om Om h32 hHb h1 h2;rw[hHl] at hVal;have hblA:(byC ah).length=32:=by rw[zd,hah]
 have hbk:=jw (ep:=ep) (cep:=ep) (sD:=.slice pH T.length cH) (sV:=.slice pV VL.length cV) (sO:=.slice pO OL.length cO) hah;have hb3:=jQ (ep:=ep) (cep:=ep) (sD:=.slice pH T.length cH) (sV:=.slice pV VL.length cV) (sO:=.slice pO OL.length cO) hah 3;have hsub:IntKind.i64.wrap ((N.length:Int) - (F:Int))=(N.length:Int) - (F:Int):=i64_in Om Om;refine Fn.enterD Tryz.func25 rfl rfl rfl ?_;intro w hw;obtain⟨w1,w2,w3,w4,w5,w6⟩:=hw
 repeat (first|refine WO.does (zx (vs:=[.int .u64 (ep:Int),.slice pH T.length cH,.slice pV VL.length cV]) (hc:=afj hah)) ?_|refine WO.acallR (hc:=hSt) (hR:=fun wx hm=>(w1.mod hm.mod).rdK) (k:=?_)|refine Tj ?_|intro _|refine Tc ?_|exact Tz)
 rename_i gS gA gB gE gf gC;refine WO.callsL (hc:=kh gf true 1 Dt) (hp:=.cons Pk.a .nil) (hR:=fun _ _=>trivial) (k:=fun v1 N1 hv=>?_);obtain⟨rfl,rfl⟩:=hv;simp only[neE,if_true,List.cons_append,List.nil_append]
 repeat (first|refine WO.does (zM rfl rfl Om) ?_|refine WO.does (zx (vs:=byC ah) (hc:=afm hah) (hl:=hblA)) ?_|refine WO.does (zx (vs:=byC ah) (hc:=zB hblA) (hl:=hblA)) ?_|refine WO.does (nZ hab hab hah hah rfl rfl (show decide (ah=ah)=true by simp)) ?_|refine WO.does (zD (hc:=hb3)) ?_|refine WO.does (tp rfl rfl Om) ?_|refine WO.does (zE rfl rfl hsub) ?_|refine WO.does (vj rfl rfl Om) ?_|refine WO.acallR (hc:=hRi) (hR:=fun wx hm=>w2.d.mod hm.mod) (k:=?_)|refine Tj ?_|intro _|refine Tc ?_|exact Tz)
 obtain⟨x0,hx0⟩ : ∃ x,VL[0]?=some x:=⟨_,List.getElem?_eq_getElem hV0⟩;obtain⟨bV,oV,rfl,_,hsV⟩:=id w4 |>.get hx0
 have hv0:(VL.flatMap vtC)[oV+0*44+2 - oV]?=some (.int .u32 (v:Int)):=by
  rw[show oV+0*44+2 - oV=0*44+2 from by omega,← (hVt.of 0 x0 hx0).2.1];exact vm (j:=2) (ua (k:=44) (fun y hy=>vU (hVt.ok y hy).l) hx0) rfl
 refine WC.all ?_;refine WA.step [0] (oO.cons ?_ oO.nil);refine Tw ?_;refine WO.nil (WX.wa ?_);refine WA.step [1] (oO.cons ?_ oO.nil);refine WO.callsL (hc:=kh gf true 4 Dt) (hp:=.cons .here .nil) (hR:=fun _ _=>trivial) (k:=fun v1 N1 hv=>?_);obtain⟨rfl,rfl⟩:=hv;simp only[neE,if_true,List.cons_append,List.nil_append];refine WO.nil (WX.wa ?_);refine WA.step [2] (oO.cons ?_ oO.nil);refine Tw ?_;refine WO.nil (WX.wa ?_);refine WA.step [3] (oO.cons ?_ oO.nil);refine Tw ?_;refine WO.nil (WX.wa ?_);refine WA.strip 3 false (dj:=75) rfl rfl Dkk rfl rfl rfl ?_;refine WT.wa (main:=[0,1,2,3,18,19,20]) (T:=[(4,.agg (stC p q g h (F:Int) (m:Int) (.slice pt N.length c)).toArray),(5,Ap gB),(6,.int .u64 (ep:Int)),(7,.pointer (some ⟨gC,2,none⟩)),(8,.slice (some ⟨bV,oV,none⟩) VL.length cV),(9,.pointer (some ⟨bV,oV+0*44,none⟩)),(10,.pointer (some ⟨bV,oV+0*44+2,none⟩)),(11,.int .u32 (v:Int)),(12,.pointer (some ⟨gC,1,none⟩)),(13,.slice pH T.length cH),(14,.agg (byC (hOf (zN sd) HL)).toArray),(15,.pointer (some ⟨gC,2,none⟩)),(16,.slice (some ⟨bV,oV,none⟩) VL.length cV),(17,.bool true)]) (D:=[3,2,1,0]) ?_ rfl Dkk Dkk Dkk (by rfl);refine WT.withD [⟨gC,73,[.int .u64 (ep:Int),.slice pH T.length cH,.slice (some ⟨bV,oV,none⟩) VL.length cV]⟩,⟨gB,75,bkC ep ah ep (.slice pH T.length cH) (.slice (some ⟨bV,oV,none⟩) VL.length cV) (.slice pO OL.length cO)⟩,⟨gS,36,stC p q g h (F:Int) (m:Int) (.slice pt N.length c)⟩] Kr (Tlv.auto (Tlv.auto (Tlv.auto (Tlv.auto (Tlv.auto (Tlv.d rfl (zb (o':=oV+0*44) rfl rfl hV0 rfl) (Tlv.auto (Tlv.d rfl (zn (hs:=hsV) (hle:=by omega) (hc:=hv0)) (Tlv.auto (Tlv.auto (Tlv.call hSet (fun wx hm=>w3.mod hm.mod) (Tlv.auto (Tlv.auto (Tlv.call hCe (fun wx hm=>⟨w1.mod hm.mod,w4.mod hm.mod⟩) Tlv.nil)))))))))))))) (fun hc hT=>?_);refine WT.one (m:=18) rfl hc hT ?_;refine WO.callsL (hc:=kh gf true 10 Dt) (hp:=.cons .here .nil) (hR:=fun _ _=>trivial) (k:=fun v1 N1 hv=>?_);obtain⟨rfl,rfl⟩:=hv;simp only[neE,if_true,List.cons_append,List.nil_append];refine WO.nil (WX.wt [(90,.bool true)] ?_);refine WT.one (m:=19) rfl hc hT ?_;refine Tw ?_;refine WO.nil (WX.wt [(91,.bool false)] ?_);refine WT.one (m:=20) rfl hc hT ?_;refine Tw ?_;refine WO.nil (WX.wt [(92,.bool false)] ?_);refine WT.fin [20] 22 hc rfl Kr ?_;clear hc hT
 repeat (first|refine Tk ?_|intro _|exact Tz)
 refine WO.calls (fs:=[]) (cs:=[]) hSec rfl rfl rfl (fun wx hm=>⟨w1.mod hm.mod,w2.mod hm.mod,w3.mod hm.mod,w6.mod hm.mod Sm⟩) (fun v1 N1 hv=>?_);obtain⟨gO,cO',Z,rfl,rfl,hZ,hZm⟩:=hv;have hZl:Z.length=T.length:=by have:=congrArg List.length hZ;simpa using this
 have hZx:∀ z∈Z,z.xs.length=m:=fun z hz=>by
  have h1:z.xs∈Z.map Nw.xs:=List.mem_map.2 ⟨z,hz,rfl⟩;rw[hZ] at h1;obtain⟨i,_,hi⟩:=List.mem_map.1 h1;rw[← hi,pW]
 have hVa:=hVal gO T.length Z Om hZx;rw[hZ,← kC] at hVa;refine WO.behind [_,_,_,_,_,_] ?_;simp only[adQ,yw hT0,List.cons_append,List.nil_append]
 repeat (first|refine WO.does (zA rfl rfl rfl) ?_|refine WO.does (zH rfl rfl) ?_|refine WO.does (zx (vs:=bkC ep ah ep (.slice pH T.length cH) (.slice (some ⟨bV,oV,none⟩) VL.length cV) (.slice pO OL.length cO)) (hc:=zB hbk) (hl:=hbk)) ?_|refine Tj ?_|intro _|refine Tc ?_|exact Tz)
 refine WO.calls (fs:=[]) (cs:=[]) hVa rfl rfl rfl (fun wx hm=>⟨w1.mod hm.mod,w3.mod hm.mod,⟨RdF.ownO (Hs.sg hm) hZl,fun z hz=>adh (hm.ok _ (by repeat (first|exact List.mem_append_left _ (dZ hz)|apply List.mem_cons_of_mem)))⟩⟩) (fun v1 N1 hv=>?_);obtain⟨gV,cV',rfl,rfl⟩:=hv;simp only[List.cons_append,List.nil_append];obtain⟨A,hA⟩ : ∃ A,vaL p q h m ep HL T.length lP=A:=⟨_,rfl⟩;have hAl:A.length=m:=by rw[← hA,oh]
 have hAok:∀ X∈A,X.length=32∧∀ b∈X,b<256:=by rw[← hA];exact iW
 rw[hA];refine WO.defersA rfl rfl (fun a1 w7 d1 d2 d3 d4=>?_);show Code.wp _ _ _ _ _;refine WO.tail (w0:=w) (gs:=[]) (n:=111) (K:=[(8,Sx.pt gf),(6,Sx.pt gB)]) d1 d2 (Kle.kn d3 Kle.a) d4 ?_;refine Tw ?_;refine WO.stores zo ?_;refine WO.nil (WX.un (fun a2 w8 h1 h2 h3 h4=>?_));show Code.wp _ _ _ _ _;refine wp_ret ?_;have hds:(dfA [{ target:=.fn (.func 58) #[Sx.pt gB,Sx.pt gf],args:=#[AQ gV m m] }] a2).defers=[{ target:=.fn (.func 58) #[Sx.pt gB,Sx.pt gf],args:=#[AQ gV m m] }]:=by simp[dfA,h1]
 show Leaves Tryz.prog Tryz.f25 a2.tmps _ (dfA [{ target:=.fn (.func 58) #[Sx.pt gB,Sx.pt gf],args:=#[AQ gV m m] }] a2).defers .returning w8;rw[hds];have hnd:=h4.nodup;simp only[List.map_cons,List.nodup_cons,List.mem_cons,not_or] at hnd;have hBf:gB≠gf:=fun e=>hnd.2.1.2.2.1 e.symm;have hVf:gV≠gf:=hnd.1.1;have hgf:w.heap.size≤gf:=(h4.mine ⟨gf,54,[.int .i64 0]⟩ Sm).resolve_right Sm;have hm8:=h4.mr;have hD:=aah gB gf ep ep ah (.slice pH T.length cH) (.slice (some ⟨bV,oV,none⟩) VL.length cV) (some ⟨gV,0,none⟩) pO m cO A OL w8 hah hAok hOk Om Om (h4.ok _ Sm) (Hs.sg hm8) hBf (RdF.ownO (Hs.sg hm8) rfl) (w5.mod h4.mod) (fun b hb=>by cases hb;exact hVf) (fun b hb=>by
  subst hb;obtain⟨b0,o0,_⟩:=b;have hne:OL≠[]:=fun e=>by rw[e] at hOl;simp at hOl;omega
  have h5:=w5;obtain⟨_,_,e,h6⟩:=id w5;cases e
  rcases h6 with ⟨h6,_⟩|⟨b1,o1,e1,hs1⟩
  ·cases h6
  ·cases e1
   obtain⟨X,r,hX⟩ : ∃ X r,OL=X::r:=by
    cases OL with
    | nil=>exact absurd rfl hne
    | cons X r=>exact⟨X,r,rfl⟩
   have hXl:=(hOk X (by rw[hX];exact List.mem_cons_self ..)).1
   obtain⟨x,xs,hx⟩ : ∃ x xs,X=x::xs:=by
    cases X with
    | nil=>simp at hXl
    | cons x xs=>exact⟨x,xs,rfl⟩
   rw[hX,hx] at hs1;have h7:=Seg.lt1 hs1;show b0≠gf;omega)
 rw[hAl] at hD;refine leaves_cons (f:=58) (args:=([AQ gV m m,Sx.pt gB,Sx.pt gf]:LV).toArray) Sm (jZ _ gB gf _) ?_;refine hD.mono ?_;rintro e u' w9 ⟨rfl,v9,N9,rfl,hm9,rfl⟩;have h10:=Me.callL (M:=[_]) (h4.perm (List.Perm.swap _ _ _)) hm9;exact Leaves.done (K:=[(110,.int .i64 0),(8,Sx.pt gf),(6,Sx.pt gB)]) h3 h10 (ab2 rfl (ti (p:=8) rfl Hs.here rfl)) Lle.nil rfl
end
end Sx
end
end Go.Proofs.YtiaibpcaloigkaaGreatDoor
