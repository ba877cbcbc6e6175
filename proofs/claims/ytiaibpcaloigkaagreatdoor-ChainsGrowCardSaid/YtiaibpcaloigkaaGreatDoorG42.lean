/- Part 42 of the proof. -/
import Derived.Test.YtiaibpcaloigkaaGreatDoorG41
set_option linter.unusedSimpArgs false
set_option linter.unusedVariables false
set_option maxHeartbeats 8000000
namespace Go.Proofs.YtiaibpcaloigkaaGreatDoor
section
open Go Go.RowKit Go.BigFrame
namespace Sx
attribute [local irreducible] DQ WC WO WX wd
theorem dB {Z:List Nw} {z:Nw} (h:z∈Z):nwE z∈nwB Z:=List.mem_map.2 ⟨z,List.mem_reverse.2 h,rfl⟩
structure af4 (v:Value) (Z:List Nw) (w:World):Prop where
 o:RdF nwC v Z w
 i:∀ z∈Z,RdF zc (AQ z.g z.xs.length z.c) z.xs w
theorem af4.mod {v:Value} {Z:List Nw} {w w' : World} (h:af4 v Z w) (hm:Mod [] w w'):af4 v Z w':=⟨h.o.mod hm,fun z hz=>(h.i z hz).mod hm⟩
theorem aeB {z:Nw} {w:World} (h:(nwE z).ok w):RdF zc (AQ z.g z.xs.length z.c) z.xs w:=by
 have:=Ent.ok.seg h 0;rw[List.drop_zero] at this;exact RdF.ownO this rfl
end Sx
end
section
open Go Go.RowKit Go.BigFrame
namespace Sx
attribute [local irreducible] DQ WC WO WX yN ddH hOf wd
structure Rr where
 pt:Option Addr
 xs:List Nat
 c:Nat
def rrP (PP:List Rr) (i:Nat):List Nat:=(PP[i]?.map Rr.xs).getD []
def mdB (W:List ((Dd × Dk) × Nw)):List Ent:=W.reverse.flatMap fun x=>nwE x.2::ddL x.1.1 x.1.2
theorem abO (W:List ((Dd × Dk) × Nw)) (x:(Dd × Dk) × Nw):mdB (W++[x])=nwE x.2::(ddL x.1.1 x.1.2++mdB W):=by unfold mdB;rw[List.reverse_append];rfl
theorem afu {W:List ((Dd × Dk) × Nw)} {x:(Dd × Dk) × Nw} (h:x∈W):nwE x.2∈mdB W:=List.mem_flatMap.2 ⟨x,List.mem_reverse.2 h,List.mem_cons_self ..⟩
theorem aff {W:List ((Dd × Dk) × Nw)} {x:(Dd × Dk) × Nw} (h:x∈W) {e:Ent} (he:e∈ddL x.1.1 x.1.2):e∈mdB W:=List.mem_flatMap.2 ⟨x,List.mem_reverse.2 h,List.mem_cons_of_mem _ he⟩
abbrev hzC:List Value:=byC (List.replicate 32 0)
structure tv (p q g a F m:Nat) (ks:LP) (ep:Nat) (PP:List Rr) (n:Nat) (W:List ((Dd × Dk) × Nw)):Prop where
 d:W.map (fun x=>x.1.1)=(List.range n).map fun i=>dqX p q g a F m ks ep i (rrP PP i)
 p:W.map (fun x=>x.2.xs)=(List.range n).map fun i=>dqL q (rrP PP i) (F+m)
theorem mQ {α β:Type} (f:α→β) (G:Nat→β) {W:List α} {x:α} {i:Nat} (h:W.map f=(List.range i).map G) (hx:f x=G i):(W++[x]).map f=(List.range (i+1)).map G:=by
 rw[List.map_append,h,yD,← hx];rfl
end Sx
end
section
open Go Go.RowKit Go.BigFrame
namespace Sx
section
variable {P:Program} {w0:World} {gs:LN} {n:Nat} {ops:List Oper} {Q:Exit→Act→World→Prop} {K:List (Nat × Value)} {rest:List Oper}
theorem WO.swap {A T:List Ent} (k:WO P w0 gs n ops Q K (A++T) rest):WO P w0 gs n ops Q K (T++A) rest:=fun a w h1 h2 h3 h4=>k a w h1 h2 h3 (h4.perm List.perm_append_comm)
theorem WO.behind {R M:List Ent} (X:List Ent) (k:WO P w0 gs n ops Q K (X++(R++M)) rest):WO P w0 gs n ops Q K (R++(X++M)) rest:=fun a w h1 h2 h3 h4=>k a w h1 h2 h3 (h4.perm (List.perm_append_comm_assoc R X M))
end
section
variable {p q g a F m:Nat} {ks:LP} {ep n:Nat} {PP:List Rr} {W:List ((Dd × Dk) × Nw)}
theorem tv.get (k:tv p q g a F m ks ep PP n W) {i:Nat} {y:Dd × Dk} (h:(W.map Prod.fst)[i]?=some y):i<n∧y.1=dqX p q g a F m ks ep i (rrP PP i):=by
 have h1:(W.map fun x=>x.1.1)[i]?=some y.1:=by
  rw[List.getElem?_map] at h ⊢;cases hw:W[i]? with
  | none=>rw[hw] at h;cases h
  | some w=>rw[hw] at h;cases h;rfl
 rw[k.d,List.getElem?_map] at h1
 rcases Nat.lt_or_ge i n with hi|hi
 ·rw[List.getElem?_range hi] at h1;exact⟨hi,(Option.some.inj h1).symm⟩
 ·rw[List.getElem?_eq_none (by simpa using hi)] at h1;cases h1
theorem tv.len (k:tv p q g a F m ks ep PP n W):W.length=n:=by have:=congrArg List.length k.d;simpa using this
theorem tv.hs (k:tv p q g a F m ks ep PP n W):(W.map fun x=>ddH ep x.1.1)=(W.map Prod.fst).map fun y=>ddH ep y.1:=by rw[List.map_map];rfl
end
theorem Hs.of_mem2 {L:List Ent} {g t:Nat} {cs:LV} (h:(⟨g,t,cs⟩ : Ent)∈L):Hs L g t cs:=by
 induction L with
 | nil=>cases h
 | cons e L ih =>
  rcases List.mem_cons.1 h with h|h
  ·rw[← h];exact .here
  ·exact .there (ih h)
theorem Lle.skpL {N L:List Ent}:∀ R:List Ent,Lle N L→Lle N (R++L)
 | [],h=>h
 | _::R,h=>Lle.skp (Lle.skpL R h)
theorem jj {W:List ((Dd × Dk) × Nw)} {w:World} (h:∀ e∈mdB W,e.ok w):∀ y∈W.map Prod.fst,fQ w y.1 y.2:=fun y hy=>by
 obtain⟨x,hx,rfl⟩:=List.mem_map.1 hy;exact fQ.of fun e he=>h e (aff hx he)
theorem iA {W:List ((Dd × Dk) × Nw)} {w:World} (h:∀ e∈mdB W,e.ok w):∀ z∈W.map Prod.snd,RdF zc (AQ z.g z.xs.length z.c) z.xs w:=fun z hz=>by
 obtain⟨x,hx,rfl⟩:=List.mem_map.1 hz;exact aeB (h _ (afu hx))
end Sx
end
section
open Go Go.RowKit Go.BigFrame
namespace Sx
attribute [local irreducible] DQ WC WO WX yN ddH hOf wd
end Sx
end
section
open Go Go.RowKit Go.BigFrame
namespace Sx
section
variable {P:Program} {w0:World} {gs:LN} {n:Nat} {ops:List Oper} {Q:Exit→Act→World→Prop} {K:List (Nat × Value)} {rest:List Oper}
theorem WO.drop {R M:List Ent} (X:List Ent) (k:WO P w0 gs n ops Q K (X++M) rest):WO P w0 gs n ops Q K (X++(R++M)) rest:=fun a w h1 h2 h3 h4=>k a w h1 h2 h3 (h4.sub (List.Sublist.append_left (List.sublist_append_right R M) X))
end
attribute [local irreducible] wd DQ WO WC WX hOf
theorem Seg.preO {w:World} {b o:Nat} {A B:LV} (h:Seg w b o (A++B)):Seg w b o A:=fun i v hv=>h i v (by rw[List.getElem?_append_left (List.getElem?_eq_some_iff.1 hv).1];exact hv)
structure Bw where
 g:Nat
 c:Nat
 xs:List Nat
 r:List Value
def bwC (z:Bw):List Value:=[AQ z.g z.xs.length z.c]
theorem dr (z:Bw):(bwC z).length=1:=rfl
def bwE (z:Bw):Ent:=⟨z.g,5,byC z.xs++z.r⟩
def bwB (Z:List Bw):List Ent:=Z.reverse.map bwE
theorem jZ (Z:List Bw) (z:Bw):bwB (Z++[z])=bwE z::bwB Z:=by unfold bwB;rw[List.reverse_append];rfl
def QOk (Z:List Bw):Prop:=∀ z∈Z,(z.xs.length≤z.c∧z.c<9223372036854775808)∧z.xs.length≤32∧∀ b∈z.xs,b<256
def ahM (Z:List Bw):Prop:=∀ z∈Z,z.xs.length≤z.c∧z.c<9223372036854775808
theorem o7 {w0 w:World} {gs:LN} {L:List Ent} (hm:Mr w0 gs L w):∀ (Z:List Bw),ahM Z→(∀ z∈Z,bwE z∈L)→z6 (Z.flatMap bwC) (Z.map Bw.xs) w
 | [],_,_=>z6.nil
 | z::Z,hk,hl=>z6.cons (RdP.own (t:=5) (r:=z.r) hm (Hs.of_mem2 (hl z (List.mem_cons_self ..))) (hk z (List.mem_cons_self ..)).1 (hk z (List.mem_cons_self ..)).2) (o7 hm Z (fun y hy=>hk y (List.mem_cons_of_mem _ hy)) (fun y hy=>hl y (List.mem_cons_of_mem _ hy)))
theorem ai {Z:List Bw} {z:Bw} (h:z∈Z):bwE z∈bwB Z:=List.mem_map.2 ⟨z,List.mem_reverse.2 h,rfl⟩
theorem iz (X:LN) (b o c:Nat) (hX:X.length=32):Fn Tryz.prog 43 [.slice (some ⟨b,o,none⟩) 32 c] (fun w=>Seg w b o (byC X))
  (Ex (fun s=>AQ (s 0) 32 (s 1)) (fun s=>[⟨s 0,5,byC X++mkz (s 1 - 32) [.int .u8 0]⟩]) (fun s=>32≤s 1∧s 1<9223372036854775808)):=by
 have hl:(byC X).length=32*1:=by rw[zd,hX]
 refine Fn.enter Tryz.func43 rfl rfl rfl ?_;intro w hw
 repeat (first|refine WO.does (yE (e:=5) Tryz.underlying126 rfl rfl) ?_|refine Tj ?_|intro _|(refine WO.makes (zh (cs:=[]) rfl Dtt rfl) ?_;intro _)|refine Tc ?_|exact Tz)
 refine WO.appKZ (z:=[.int .u8 0]) (m:=32) (l:=32) rfl rfl rfl (xs:=[]) (ys:=byC X) rfl (Nat.le_refl _) Pk.a (Rds.seg hw (Nat.le_refl _) Sm (m:=32) (by rw[Nat.sub_self];exact zt (by rw[zd,hX]))) hl (zM X) (Nat.zero_add _) Om Dtt Om Dtt Dtt (fun g1 c1 a2 a3=>?_)
 repeat (first|refine Tk ?_|intro _|exact Tz)
 exact WX.ret1 rfl (zK rfl) [⟨g1,5,byC X++mkz (c1 - 32) [.int .u8 0]⟩] (by repeat (first|exact Lle.nil|refine Lle.c ?_)) ⟨fun j=>match j with|0=>g1|_=>c1,rfl,rfl,a3,a2⟩
abbrev nwV (z:Nw):Value:=AQ z.g z.xs.length z.c
theorem dv {f:Nat} [Cal Tryz.prog f] (caps:LV) (Pb:Nw→Bool) (xs:List Nw) (b o c:Nat) (R:World→Prop) (hst:zX R) (hn:xs.length≤1099511627776)
  (hf:∀ x∈xs,Fn Tryz.prog f ([nwV x]++caps) R (Is (.bool (Pb x)))) :
  Fn Tryz.prog 101 [.slice (some ⟨b,o,none⟩) xs.length c,.func (.func f) #[] caps.toArray] (fun w=>Seg w b o (xs.flatMap nwC)∧R w) (Is (.int .i64 (ixI Pb xs))):=by
 refine Fn.enter Tryz.func101 rfl rfl rfl ?_;intro w hw;obtain⟨hw,hwR⟩:=hw
 repeat (first|refine Tk ?_|intro _|exact Tz)
 refine WC.loopI (σ:=Nat) (fun i=>i≤xs.length∧∀ j,j<i→∀ x,xs[j]?=some x→Pb x=false) (fun i=>[(0,.slice (some ⟨b,o,none⟩) xs.length c),(1,.func (.func f) #[] caps.toArray),(7,.int .i64 (xs.length:Int)),(8,.int .i64 (i:Int))]) (fun _=>[]) (fun i=>xs.length - i) 0 (fun i hi=>?_) ⟨Nat.zero_le _,fun j hj=>by omega⟩
 try dsimp only at hi ⊢
 obtain⟨hi,h0⟩:=hi
 by_cases hlt:i<xs.length
 ·obtain⟨x,hx⟩ : ∃ x,xs[i]?=some x:=⟨_,List.getElem?_eq_getElem hlt⟩;have hcx:(xs.flatMap nwC)[o+i*1 - o]?=some (nwV x):=by rw[Nat.add_sub_cancel_left];exact vb (j:=0) (zL (f:=nwC) (k:=1) kG hx) rfl
  have hcall:=hf x (List.mem_of_getElem? hx);cases hp:Pb x with
  | true =>
   rw[bi Pb h0 hx hp];rw[hp] at hcall
   repeat (first|refine Tk ?_|intro _|exact Tz)
   refine WC.dT rfl Om ?_
   repeat (first|refine Tj ?_|intro _|refine WO.does (zb (o':=o+i*1) rfl rfl hlt rfl) ?_|refine WO.does (zm (v:=nwV x) (hs:=hw) (hle:=Nat.le_add_right _ _) (hc:=hcx)) ?_|refine WO.acallV (hc:=hcall) (hR:=fun w' hm=>hst _ _ hwR hm.mod.below) (k:=?_)|refine Tc ?_|exact Tz)
  | false =>
   rw[hp] at hcall
   repeat (first|refine Tk ?_|intro _|exact Tz)
   refine WC.dT rfl Om ?_
   repeat (first|refine Tj ?_|intro _|refine WO.does (zb (o':=o+i*1) rfl rfl hlt rfl) ?_|refine WO.does (zm (v:=nwV x) (hs:=hw) (hle:=Nat.le_add_right _ _) (hc:=hcx)) ?_|refine WO.acallV (hc:=hcall) (hR:=fun w' hm=>hst _ _ hwR hm.mod.below) (k:=?_)|refine Tc ?_|exact Tz)
   refine WX.metI (i+1) (hs:=⟨⟨by show i+1≤xs.length;omega,fun j hj y hy=>by
    rcases Nat.lt_or_ge j i with h|h
    ·exact h0 j h y hy
    ·have:j=i:=by omega
     subst this;rw[hx] at hy;cases hy;exact hp⟩,by show xs.length - (i+1)<xs.length - i;omega⟩)
 ·have hi2:i=xs.length:=by omega
  rw[nm Pb (by rw[← hi2];exact h0)]
  repeat (first|refine Tk ?_|intro _|exact Tz)
  refine WC.dF rfl Om ?_
  repeat (first|refine Tk ?_|intro _|exact Tz)
theorem mP {f:Nat} [Cal Tryz.prog f] (caps:LV) (Pb:Nw→Bool) (xs:List Nw) (b o c:Nat) (R:World→Prop) (hst:zX R) (hn:xs.length≤1099511627776)
  (hf:∀ x∈xs,Fn Tryz.prog f ([nwV x]++caps) R (Is (.bool (Pb x)))) :
  Fn Tryz.prog 39 [.slice (some ⟨b,o,none⟩) xs.length c,.func (.func f) #[] caps.toArray] (fun w=>Seg w b o (xs.flatMap nwC)∧R w) (Is (.bool (xs.any Pb))):=by
 have hI:=dv caps Pb xs b o c R hst hn hf;rw[← kL];generalize ixI Pb xs=r at *;refine Fn.enter Tryz.func39 rfl rfl rfl ?_;intro w hw;obtain⟨hw,hwR⟩:=hw
 repeat (first|refine Tj ?_|intro _|refine WO.acallR (hc:=hI) (hR:=fun w' hm=>⟨hw.mod hm.mod Sm,hst _ _ hwR hm.mod.below⟩) (k:=?_)|refine Tc ?_|exact Tz)
theorem afg (p q g h:Nat) (f:Int) (m:Nat) (ns:Value) (z:Nw) (gS:Nat) (hz:z.xs.length=m):Fn Tryz.prog 40 ([nwV z]++[Sx.pt gS]) (fun w=>Seg w gS 0 (stC p q g h f (m:Int) ns)) (Is (.bool false)):=by
 refine Fn.enter Tryz.func40 rfl rfl rfl ?_;intro w hw
 repeat (first|refine WO.does (zm (v:=.int .i64 (m:Int)) (hs:=hw) (hle:=Nat.zero_le _) (hc:=rfl)) ?_|refine WO.does (zA rfl rfl Om) ?_|refine Tj ?_|intro _|refine Tc ?_|exact Tz)
 done
def uW:ByteArray:=⟨#[115,101,116]⟩
def nO:ByteArray:=⟨#[118,97,108,117,101]⟩
theorem rr:∀ {Ps:List (List Nat)},(∀ X∈Ps,X.length≤32)→(yM Ps).length≤Ps.length*36
 | [],_=>by simp[yM]
 | X::Ps,h=>by
  have h1:=h X (List.mem_cons_self ..);have h2:=rr (Ps:=Ps) (fun Y hY=>h Y (List.mem_cons_of_mem _ hY));simp only[yM,List.flatMap_cons,List.length_append,List.length_cons,zj] at h2 ⊢;omega
theorem sK {s:LN} {Ps:List (List Nat)} (hs:s.length≤100) (h:∀ X∈Ps,X.length≤32) (hn:Ps.length≤1000):(yG s Ps).length≤1152921504606840000:=by
 have:=rr h;unfold yG uV;simp only[List.length_append,zj];omega
section
variable (pH:Option Addr) (cH:Nat) (HL:List (List Nat))
theorem ao (h0:0<HL.length) (hn:HL.length≤100) (h32:∀ H∈HL,H.length=32) (hb:∀ H∈HL,∀ b∈H,b<256) :
  Fn Tryz.prog 41 [.slice pH HL.length cH] (RdF byC (.slice pH HL.length cH) HL) (Is (.agg (byC (hOf (zN uW) HL)).toArray)):=by
 have hHof:=fun (vs:LV) (Ps:List (List Nat)) (hP) (hb) (B O C:Nat)=>lI uW vs Ps B O C hP hb Dtt;have hol:(hOf (zN uW) HL).length=32:=zI _ _;have hsm:(yG (zN uW) HL).length≤1152921504606840000:=sK (by rw[yb];decide) (fun X hX=>Nat.le_of_eq (h32 X hX)) Om;refine Fn.enter Tryz.func41 rfl rfl rfl ?_;intro w hw
 repeat (first|refine Tk ?_|intro _|exact Tz)
 rename_i gR
 refine WC.loopI (σ:=Nat × Nat × Nat × List Bw) (fun s=>s.1≤HL.length∧s.2.2.2.map Bw.xs=HL.take s.1∧ahM s.2.2.2∧(0<s.1→s.1≤s.2.2.1∧s.2.2.1<9223372036854775808)) (fun s=>[(2,Sx.pt gR),(3,agV s.2.1 s.2.2.1 s.1 s.1),(6,.slice pH HL.length cH),(7,.int .i64 (HL.length:Int)),(8,.int .i64 (s.1:Int))])
  (fun s=>⟨gR,70,byC (List.replicate 32 0)⟩::(rwL 126 s.2.1 (s.2.2.2.flatMap bwC) (mkz (s.2.2.1 - s.1) [.slice none 0 0]) s.1++bwB s.2.2.2)) (fun s=>HL.length - s.1) (0,0,0,[]) (fun s hi=>?_) ⟨Nat.zero_le _,rfl,fun z hz=>by simp at hz,fun h=>absurd h Dtt⟩
 obtain⟨i,gl,cl,Z⟩:=s;obtain⟨hi,hZ,hZk,hr⟩:=hi
 try dsimp only at hi hZ hZk hr ⊢
 have hZl:Z.length=i:=by have:=congrArg List.length hZ;rw[List.length_map,List.length_take,Nat.min_eq_left hi] at this;exact this
 have hBl:(Z.flatMap bwC).length=i*1:=by rw[zF dr,hZl]
 by_cases hlt:i<HL.length
 ·obtain⟨X,hX⟩ : ∃ X,HL[i]?=some X:=⟨_,List.getElem?_eq_getElem hlt⟩;have hXl:=h32 X (List.mem_of_getElem? hX);obtain⟨bH,oH,rfl,_,hsH⟩:=id hw |>.get hX
  have hcH:cut (HL.flatMap byC) (oH+i*32 - oH) 32=byC X:=by
   rw[Nat.add_sub_cancel_left];exact ve (k:=32) (fun x hx=>by rw[zd,h32 x hx]) hX
  have hbl:(byC X).length=32:=by rw[zd,hXl]
  have hadd2:IntKind.i64.wrap ((i:Int)+1)=((i+1:Nat):Int):=zl Om Om Om
  repeat (first|refine Tk ?_|intro _|exact Tz)
  refine WC.dT rfl Om ?_
  repeat (first|refine WO.does (zb (o':=oH+i*32) rfl rfl hlt rfl) ?_|refine WO.does (zn (vs:=byC X) (hs:=hsH) (hle:=Nat.le_add_right _ _) (hc:=hcH) (hl:=hbl)) ?_|refine Tj ?_|intro _|refine Tc ?_|exact Tz)
  repeat (first|refine Tj ?_|intro _|refine WO.stores (zo (vs:=byC X) (cs':=byC X) (hl:=hbl) (h1:=zM X) (hc:=zC (by rw[hbl];rfl)) (hle:=by rw[hbl];rfl)) ?_|refine Tc ?_|exact Tz)
  rename_i gx;have hCl:=iz X gx 0 32 hXl
  repeat (first|refine Tj ?_|intro _|refine WO.does (yu rfl) ?_|refine Tc ?_|exact Tz)
  refine WO.acallX (hc:=hCl) (hR:=fun wx hm=>Hs.sg hm) (k:=fun s hs=>?_);obtain⟨s1,s2⟩:=hs;generalize s 0=gC at *;generalize s 1=cC at *;simp only[List.cons_append,List.nil_append];have hB2:Z.flatMap bwC++[AQ gC 32 cC]=(Z++[(⟨gC,cC,X,mkz (cC - 32) [.int .u8 0]⟩ : Bw)]).flatMap bwC:=by rw[List.flatMap_append];simp[bwC,hXl]
  refine WO.makes (zh (cs:=[AQ gC 32 cC]) rfl Dtt rfl) ?_;intro gb;refine WO.appR (z:=[.slice none 0 0]) (g:=gl) (c:=cl) (n:=i) (m:=1) (l:=i+1) (B:=Z.flatMap bwC) (ys:=[AQ gC 32 cC]) (L1:=[_,_,_,_]) (L2:=bwB Z) rfl rfl rfl rfl hBl hr (Rds.own (m:=1) Hs.here rfl) rfl rfl Dtt rfl Om Om Dtt Dtt (fun g1 c1 a1 a2=>?_);rw[hB2];simp only[List.cons_append,List.nil_append]
  repeat (first|refine WO.does (zi rfl rfl hadd2) ?_|refine Tj ?_|intro _|refine Tc ?_|exact Tz)
  exact WX.metI (i+1,g1,c1,Z++[(⟨gC,cC,X,mkz (cC - 32) [.int .u8 0]⟩ : Bw)]) (hl:=by simp only[jZ,bwE,rwL,List.cons_append,List.nil_append];repeat (first|exact Lle.left'|refine Lle.c ?_|refine Lle.skp ?_)) (hs:=⟨⟨by show i+1≤HL.length;omega,by show (Z++[_]).map Bw.xs=HL.take (i+1);rw[List.map_append,hZ,List.take_add_one,hX];rfl,fun z hz=>by
   rcases List.mem_append.1 hz with h|h
   ·exact hZk z h
   ·have:z=_:=List.mem_singleton.1 h;rw[this];exact⟨by show X.length≤cC;omega,s2⟩,fun _=>⟨a2,a1⟩⟩,by show HL.length - (i+1)<HL.length - i;omega⟩)
 ·have hi2:i=HL.length:=by omega
  subst hi2;rw[List.take_length] at hZ;obtain⟨r1,r2⟩:=hr h0;have hv:(Z.flatMap bwC).length=HL.length:=by rw[hBl,Nat.mul_one]
  have hH:=hHof (Z.flatMap bwC) HL hb hsm gl 0 cl;rw[hv] at hH;rw[yT h0,yr h0];simp only[List.cons_append,List.nil_append]
  repeat (first|refine Tk ?_|intro _|exact Tz)
  refine WC.dF rfl Om ?_
  repeat (first|refine Tk ?_|intro _|exact Tz)
  refine WO.acallR (hc:=hH) (hR:=fun wx hm=>⟨Seg.preO (Hs.sg hm),by
   have h:=o7 hm Z hZk (fun z hz=>by repeat (first|exact ai hz|apply List.mem_cons_of_mem));rwa [hZ] at h⟩) (k:=?_)
  have hbl:(byC (hOf (zN uW) HL)).length=32:=by rw[zd,hol]
  generalize hOf (zN uW) HL=HS at *
  repeat (first|refine Tj ?_|intro _|refine WO.stores (zo (vs:=byC HS) (cs':=byC HS) (hl:=hbl) (h1:=zM HS) (hc:=zC (by rw[hbl];rfl)) (hle:=by rw[hbl];rfl)) ?_|refine Tc ?_|exact Tz)
  exact WX.aret1 (hr:=vF (vs:=byC HS) (hc:=zt hbl) (hl:=hbl)) (hp:=rfl)
end
def ofV (ep:Nat) (HS:LN) (S:List (List Nat)) (i:Nat):List Nat:=hOf (zN nO) (be 8 ep::[i+1]::HS::S.map fun l=>be 32 (l.getD i 0))
def ofB (ep:Nat) (HS:LN) (S:List (List Nat)) (n:Nat):List Value:=(List.range n).flatMap fun i=>byC (ofV ep HS S i)
theorem ia (ep:Nat) (HS:LN) (S:List (List Nat)) (n:Nat):ofB ep HS S (n+1)=ofB ep HS S n++byC (ofV ep HS S n):=by unfold ofB;rw[List.range_succ,List.flatMap_append];simp
theorem bE (ep:Nat) (HS:LN) (S:List (List Nat)):∀ n,(ofB ep HS S n).length=n*(hzC).length
 | 0=>rfl
 | n+1=>by
  have:(byC (ofV ep HS S n)).length=32:=by rw[zd];exact zI _ _
  rw[ia,List.length_append,bE ep HS S n,Nat.succ_mul,this];rfl
def OfP (m:Nat) (B:LV):Value→List Ent→Prop:=fun v L=>∃ g c,v=.tuple #[AQ g m m,.int .i64 0]∧L=[⟨g,70,B++mkz (c - m) hzC⟩]
section
variable (p q g h F m:Nat) (pt:Option Addr) (c:Nat) (N:LP) (ep:Nat) (pH:Option Addr) (cH:Nat) (HL:List (List Nat)) (pS:Option Addr) (cS:Nat) (Z:List Nw)
theorem agJ (hp:p<ze) (hq:q<ze) (hg:g<ze) (hh:h<ze) (hN:zZ N) (hNl:N.length≤100) (hs:y5 p q g h (F:Int) (m:Int) N=true) (hF:F≤10) (hm:m≤10) (hm0:0<m)
  (h0:0<HL.length) (hn:HL.length≤100) (h32:∀ H∈HL,H.length=32) (hb:∀ H∈HL,∀ b∈H,b<256) (hZn:Z.length=HL.length) (hZm:∀ z∈Z,z.xs.length=m) :
  Fn Tryz.prog 14 [stV p q g h (F:Int) (m:Int) (.slice pt N.length c),.int .u64 (ep:Int),.slice pH HL.length cH,.slice pS HL.length cS]
   (fun w=>RdF ya (.slice pt N.length c) N w∧RdF byC (.slice pH HL.length cH) HL w∧af4 (.slice pS HL.length cS) Z w) (OfP m (ofB ep (hOf (zN uW) HL) (Z.map Nw.xs) m)):=by
 have hSt:=yh p q g h (F:Int) (m:Int) pt c N hp hq hg hh hN Om Om Om Om Om;rw[hs] at hSt;have hSet:=ao pH cH HL h0 hn h32 hb;have hol:(hOf (zN uW) HL).length=32:=zI _ _;have hoB:∀ b∈hOf (zN uW) HL,b<256:=yX _ _;generalize hOf (zN uW) HL=HS at *;have hbl:(byC HS).length=32:=by rw[zd,hol]
 have hCl:=fun gx=>iz HS gx 0 32 hol;have hP0:=nG [] ep 8 0 none Dtt Dtt;obtain⟨z0,hz0⟩ : ∃ z,Z[0]?=some z:=⟨_,List.getElem?_eq_getElem Om⟩;refine Fn.enter Tryz.func14 rfl rfl rfl ?_;intro w hw;obtain⟨w1,w2,w3⟩:=hw;obtain⟨bS,oS,rfl,_,hsS⟩:=id w3.o |>.get hz0
 have hCo:=fun gS=>mP (f:=40) [Sx.pt gS] (fun _=>false) Z bS oS cS (fun w=>Seg w gS 0 (stC p q g h (F:Int) (m:Int) (.slice pt N.length c))) zX.seg Om (fun z hz=>afg p q g h (F:Int) m (.slice pt N.length c) z gS (hZm z hz));rw[hZn,show (Z.any fun _=>false)=false by simp] at hCo
 repeat (first|refine WO.does (zA rfl rfl rfl) ?_|refine WO.does (zH rfl rfl) ?_|refine Tj ?_|intro _|refine WO.acallR (hc:=hSt) (hR:=fun wx hm=>(w1.mod hm.mod).rdK) (k:=?_)|refine WO.acallR (hc:=hCo _) (hR:=fun wx hm=>⟨hsS.mod hm.mod Sm,Hs.sg hm⟩) (k:=?_)|refine WO.acallR (hc:=hSet) (hR:=fun wx hm=>w2.mod hm.mod) (k:=?_)|refine WO.stores (zo (vs:=byC HS) (cs':=byC HS) (hl:=hbl) (h1:=zM HS) (hc:=zC (by rw[hbl];rfl)) (hle:=by rw[hbl];rfl)) ?_|refine Tc ?_|exact Tz)
 rename_i gS gH
 refine WC.loopI (σ:=Nat × Nat × Nat × List Value) (fun s=>s.1≤m∧s.2.2.2=ofB ep HS (Z.map Nw.xs) s.1∧(0<s.1→s.1≤s.2.2.1∧s.2.2.1<9223372036854775808)) (fun s=>[(1,.int .u64 (ep:Int)),(3,.slice (some ⟨bS,oS,none⟩) HL.length cS),(4,Sx.pt gS),(8,agV s.2.1 s.2.2.1 s.1 s.1),(9,.int .i64 0),(10,Sx.pt gH),(33,.int .i64 (m:Int)),(34,.int .i64 (s.1:Int))])
  (fun s=>⟨gH,70,byC HS⟩::⟨gS,36,stC p q g h (F:Int) (m:Int) (.slice pt N.length c)⟩::rwL 70 s.2.1 s.2.2.2 (mkz (s.2.2.1 - s.1) hzC) s.1) (fun s=>m - s.1) (0,0,0,[]) (fun s hi=>?_) ⟨Nat.zero_le _,rfl,fun h=>absurd h Dtt⟩
 obtain⟨i,go,co,B⟩:=s;obtain⟨hi,hBe,hr⟩:=hi
 try dsimp only at hi hBe hr ⊢
 have hB:B.length=i*(hzC).length:=by rw[hBe,bE]
 by_cases hlt:i<m
 ·have hadd2:IntKind.i64.wrap ((i:Int)+1)=((i+1:Nat):Int):=zl Om Om Om;have hcv:IntKind.u8.wrap ((i+1:Nat):Int)=((i+1:Nat):Int):=tt Om Om Om
  repeat (first|refine Tk ?_|intro _|exact Tz)
  refine WC.dT rfl Om ?_
  repeat (first|refine Tk ?_|intro _|exact Tz)
  refine WC.adraw 10 (k:=?_);refine Dx ?_;refine DQ.acallS (hc:=hP0) (hR:=fun _=>Rd.nil) (k:=?_);refine Dx ?_;refine DQ.does (fun s _=>zi rfl rfl hadd2) Dp.const ?_;refine DQ.does (fun s _=>zr rfl hcv) Dp.const ?_;refine DQ.makes (vf:=fun _ g=>AQ g 1 1) (t:=5) (cs:=fun _=>[.int .u8 ((i+1:Nat):Int)]) (fun s _=>zh rfl Dtt rfl) Dp.const Dp.const ?_;refine DQ.does (v:=fun _=>AQ gH 32 32) (fun s _=>yu rfl) Dp.const ?_;refine DQ.callsE (fs:=fun _=>[]) (cs:=fun _=>[]) (R:=fun _ w=>Seg w gH 0 (byC HS)) (vf:=fun _ x=>AQ (x 0) 32 (x 1)) (Nf:=fun _ x=>[⟨x 0,5,byC HS++mkz (x 1 - 32) [.int .u8 0]⟩]) (S:=fun _ x=>32≤x 1∧x 1<9223372036854775808) (fun _=>[]) (fun _=>.nil) (fun _=>⟨fun _=>32,by decide⟩) (fun _ _=>hCl gH) (fun _=>rfl) (fun _=>rfl) (fun _=>rfl) (fun _ _ w hm=>Hs.sg hm) Dp.const Dp.const Dp.const ?_;refine DQ.makes (vf:=fun _ g=>AQ g 3 3) (t:=126) (cs:=fun s=>[AQ (s 1 0) 8 8,AQ (s 5 0) 1 1,AQ (s 7 0) 32 (s 7 1)]) (fun s _=>zh rfl Dtt rfl) Dp.const (by intro s s' h;dsimp only;rw[h 1 Dkk,h 5 Dkk,h 7 Dkk]) ?_;refine Dx ?_;refine DQ.anil (k:=?_);intro sx hC;obtain⟨_,c1,c2⟩:=hC;generalize sx 1 0=g1;generalize sx 5 0=g5;generalize sx 7 0=g7;generalize sx 7 1=c7 at *;generalize sx 8 0=g8;simp only[List.map_cons,List.map_nil,List.cons_append,List.nil_append];obtain⟨Q3,hQ3⟩ : ∃ Q:List Bw,Q=[⟨g1,8,be 8 ep,[]⟩,⟨g5,1,[i+1],[]⟩,⟨g7,c7,HS,mkz (c7 - 32) [.int .u8 0]⟩]:=⟨_,rfl⟩;have hQ:Q3.flatMap bwC=[AQ g1 8 8,AQ g5 1 1,AQ g7 32 c7]:=by rw[hQ3];simp[bwC,zj,hol]
  have hQB:bwB Q3=[⟨g7,5,byC HS++mkz (c7 - 32) [.int .u8 0]⟩,⟨g5,5,[.int .u8 ((i+1:Nat):Int)]⟩,⟨g1,5,byC (be 8 ep)⟩]:=by
   rw[hQ3];show [_,_,_]=_;simp only[bwE,List.append_nil];rfl
  have hQl:Q3.length=3:=by rw[hQ3];rfl
  have hQx:Q3.map Bw.xs=be 8 ep::[i+1]::HS::((Z.map Nw.xs).take 0).map (fun l=>be 32 (l.getD i 0)):=by rw[hQ3];rfl
  have hQk:QOk Q3:=by
   rw[hQ3];intro z hz;simp only[List.mem_cons,List.not_mem_nil,or_false] at hz
   rcases hz with rfl|rfl|rfl
   ·exact⟨⟨by show (be 8 ep).length≤8;rw[zj];exact Nat.le_refl _,by show 8<9223372036854775808;decide⟩,by show (be 8 ep).length≤32;rw[zj];decide,fun b hb=>yZ b hb⟩
   ·exact⟨⟨Nat.le_refl _,by show 1<9223372036854775808;decide⟩,by show 1≤32;decide,fun b hb=>by have:b=i+1:=List.mem_singleton.1 hb;omega⟩
   ·exact⟨⟨by show HS.length≤c7;omega,c2⟩,by show HS.length≤32;omega,hoB⟩
  clear hQ3
  repeat (first|refine Tk ?_|intro _|exact Tz)
  refine WC.loopI (σ:=Nat × Nat × Nat × List Bw) (fun s=>s.1≤HL.length∧(s.2.2.2.length=3+s.1∧s.2.2.2.map Bw.xs=be 8 ep::[i+1]::HS::((Z.map Nw.xs).take s.1).map (fun l=>be 32 (l.getD i 0)))∧QOk s.2.2.2∧(3+s.1≤s.2.2.1∧s.2.2.1<9223372036854775808)) (fun s=>[(1,.int .u64 (ep:Int)),(3,.slice (some ⟨bS,oS,none⟩) HL.length cS),(4,Sx.pt gS),(8,agV go co i i),(9,.int .i64 0),(10,Sx.pt gH),(33,.int .i64 (m:Int)),(34,.int .i64 (i:Int)),(11,.int .i64 (i:Int)),(12,agV s.2.1 s.2.2.1 (3+s.1) (3+s.1)),(46,.slice (some ⟨bS,oS,none⟩) HL.length cS),(47,.int .i64 (HL.length:Int)),(48,.int .i64 (s.1:Int))])
   (fun s=>⟨gH,70,byC HS⟩::⟨gS,36,stC p q g h (F:Int) (m:Int) (.slice pt N.length c)⟩::(rwL 126 s.2.1 (s.2.2.2.flatMap bwC) (mkz (s.2.2.1 - (3+s.1)) [.slice none 0 0]) (3+s.1)++(bwB s.2.2.2++rwL 70 go B (mkz (co - i) hzC) i))) (fun s=>HL.length - s.1) (0,g8,3,Q3) (fun s hk=>?_) ⟨Nat.zero_le _,⟨hQl,hQx⟩,hQk,Nat.le_refl _,by show 3<9223372036854775808;decide⟩ (hl:=by
    show Lle (_::_::(rwL 126 g8 (Q3.flatMap bwC) [] 3++(bwB Q3++_))) _;rw[hQ,hQB];simp only[rwL,List.append_nil,List.cons_append,List.nil_append]
    repeat (first|exact Lle.left'|refine Lle.c ?_|refine Lle.skp ?_))
  obtain⟨k,gp,cp,Q⟩:=s;obtain⟨hk,⟨hQl,hQx⟩,hQk,hq1,hq2⟩:=hk
  try dsimp only at hk hQl hQx hQk hq1 hq2 ⊢
  have hBl:(Q.flatMap bwC).length=(3+k)*1:=by rw[zF dr,hQl]
  by_cases hlk:k<HL.length
  ·obtain⟨z,hz⟩ : ∃ z,Z[k]?=some z:=⟨_,List.getElem?_eq_getElem Om⟩;have hzm:=List.mem_of_getElem? hz;obtain⟨x,hx⟩ : ∃ x,z.xs[i]?=some x:=⟨_,List.getElem?_eq_getElem (by rw[hZm z hzm];exact hlt)⟩;obtain⟨b,o,e,_,hsz⟩:=(w3.i z hzm).get hx;injection e with e
   injection e with e1 e2
   subst e1 e2;have hq1' : (Z.flatMap nwC)[oS+k*1 - oS]?=some (AQ z.g m z.c):=by
    rw[Nat.add_sub_cancel_left,← hZm z hzm];exact (vb (j:=0) (zL (f:=nwC) (k:=1) kG hz) rfl)
   have hcx:cut (z.xs.flatMap zc) (0+i*4 - 0) 4=zc x:=by rw[Nat.zero_add,Nat.sub_zero];exact zL zU hx
   have hadd3:IntKind.i64.wrap ((k:Int)+1)=((k+1:Nat):Int):=zl Om Om Om;have hPL:Fn Tryz.prog 44 [.slice none 0 0,zk x] (fun w=>Rd (.slice none 0 0) 0 (byC []) w) (az 5 32 (byC (be 32 x))):=by
    have:=yQ [] x 0 none Dtt;simpa [zj] using this
   repeat (first|refine Tk ?_|intro _|exact Tz)
   refine WC.dT rfl Om ?_
   repeat (first|refine WO.does (zb (o':=oS+k*1) rfl rfl hlk rfl) ?_|refine WO.does (zm (hs:=hsS) (hle:=Nat.le_add_right _ _) (hc:=hq1')) ?_|refine WO.does (zb (o':=0+i*4) rfl rfl hlt rfl) ?_|refine WO.does (zn (vs:=zc x) (hs:=hsz) (hle:=by omega) (hc:=hcx)) ?_|refine Tj ?_|intro _|refine Tc ?_|exact Tz)
   refine WO.acallN (hc:=hPL) (hR:=fun _ _=>Rd.nil) (k:=fun gn=>?_);refine WO.makes (zh (cs:=[AQ gn 32 32]) rfl Dtt rfl) ?_;intro gb;have hB2:Q.flatMap bwC++[AQ gn 32 32]=(Q++[(⟨gn,32,be 32 x,[]⟩ : Bw)]).flatMap bwC:=by rw[List.flatMap_append];simp[bwC,zj]
   refine WO.appR (z:=[.slice none 0 0]) (g:=gp) (c:=cp) (n:=3+k) (m:=1) (l:=3+(k+1)) (B:=Q.flatMap bwC) (ys:=[AQ gn 32 32]) (L1:=[_,_,_,_]) (L2:=_) rfl rfl rfl rfl hBl (fun _=>⟨hq1,hq2⟩) (Rds.own (m:=1) Hs.here rfl) rfl rfl Dtt rfl Om Om Dtt Dtt (fun gq cq a1 a2=>?_);rw[hB2];simp only[List.cons_append,List.nil_append]
   repeat (first|refine WO.does (zi rfl rfl hadd3) ?_|refine Tj ?_|intro _|refine Tc ?_|exact Tz)
   rw[← yT (g:=gq) (c:=cq) (n:=3+(k+1)) Om];have hbE:bwE (⟨gn,32,be 32 x,[]⟩ : Bw)=⟨gn,5,byC (be 32 x)⟩:=by unfold bwE;simp only[List.append_nil]
   exact WX.metI (k+1,gq,cq,Q++[(⟨gn,32,be 32 x,[]⟩ : Bw)]) (hl:=by rw[yr Om];simp only[jZ,hbE,List.cons_append,List.nil_append];repeat (first|exact Lle.left'|refine Lle.c ?_|refine Lle.skp ?_)) (hs:=⟨⟨by show k+1≤HL.length;omega,⟨by show (Q++[_]).length=_;rw[List.length_append,hQl];rfl,by
    show (Q++[_]).map Bw.xs=_;rw[List.map_append,hQx,List.take_add_one,List.getElem?_map,hz,List.map_append];simp only[List.cons_append,Option.map_some,Option.toList,List.map_cons,List.map_nil,List.getD_eq_getElem?_getD,hx,Option.getD_some]⟩,fun y hy=>by
    rcases List.mem_append.1 hy with h|h
    ·exact hQk y h
    ·have:y=_:=List.mem_singleton.1 h;rw[this];exact⟨⟨by show (be 32 x).length≤32;rw[zj];exact Nat.le_refl _,by show 32<9223372036854775808;decide⟩,by show (be 32 x).length≤32;rw[zj];exact Nat.le_refl _,fun b hb=>yZ b hb⟩,a2,a1⟩,by show HL.length - (k+1)<HL.length - k;omega⟩)
  ·have hk2:k=HL.length:=by omega
   have h3k:0<3+k:=by omega
   have hv:(Q.flatMap bwC).length=3+k:=by rw[hBl,Nat.mul_one]
   have hH:=lI nO (Q.flatMap bwC) (Q.map Bw.xs) gp 0 cp (fun X hX=>by
    obtain⟨y,hy,rfl⟩:=List.mem_map.1 hX;exact (hQk y hy).2.2) (sK (by rw[yb];decide) (fun X hX=>by
    obtain⟨y,hy,rfl⟩:=List.mem_map.1 hX;exact (hQk y hy).2.1) (by rw[List.length_map,hQl];omega)) Dtt
   rw[hv] at hH;have hHl:(byC (hOf (zN nO) (Q.map Bw.xs))).length=32:=by rw[zd];exact zI _ _
   rw[yT h3k,yr h3k];simp only[List.cons_append,List.nil_append]
   repeat (first|refine Tk ?_|intro _|exact Tz)
   refine WC.dF rfl Om ?_
   repeat (first|refine Tk ?_|intro _|exact Tz)
   refine WO.acallR (hc:=hH) (hR:=fun wx hm=>⟨Seg.preO (Hs.sg hm),o7 hm Q (fun y hy=>(hQk y hy).1) (fun y hy=>by repeat (first|exact List.mem_append_left _ (ai hy)|apply List.mem_cons_of_mem))⟩) (k:=?_);have hQ2:Q.map Bw.xs=be 8 ep::[i+1]::HS::(Z.map Nw.xs).map (fun l=>be 32 (l.getD i 0)):=by rw[hQx,hk2,← hZn,← List.length_map (f:=Nw.xs),List.take_length]
   have hHV:hOf (zN nO) (Q.map Bw.xs)=ofV ep HS (Z.map Nw.xs) i:=by rw[hQ2];rfl
   generalize hOf (zN nO) (Q.map Bw.xs)=HV at *;refine WO.makes (zh (cs:=byC HV) rfl Dtt (nL hHl)) ?_;intro gb;refine WO.drop [_,_,_,_] ?_;simp only[List.cons_append,List.nil_append];refine WO.appR (z:=hzC) (g:=go) (c:=co) (n:=i) (m:=1) (l:=i+1) (B:=B) (ys:=byC HV) (L1:=[_,_,_,_]) (L2:=[]) rfl rfl rfl (by rw[List.append_nil];rfl) hB hr (Rds.own (m:=32) Hs.here (zt hHl)) (by rw[hHl];rfl) (zM HV) Dtt rfl Om Om Dtt Dtt (fun g2 c2 a1 a2=>?_);simp only[List.cons_append,List.nil_append,List.append_nil]
   repeat (first|refine WO.does (zi rfl rfl hadd2) ?_|refine Tj ?_|intro _|refine Tc ?_|exact Tz)
   exact WX.metI (i+1,g2,c2,B++byC HV) (hl:=by simp only[rwL];repeat (first|exact Lle.left'|refine Lle.c ?_|refine Lle.skp ?_)) (hs:=⟨⟨by show i+1≤m;omega,by show B++byC HV=ofB ep HS (Z.map Nw.xs) (i+1);rw[ia,hBe,hHV],fun _=>⟨a2,a1⟩⟩,by show m - (i+1)<m - i;omega⟩)
 ·have hi2:i=m:=by omega
  subst hi2;obtain⟨r1,r2⟩:=hr hm0;have hClip:=kP (c:=co) (some ⟨go,0,none⟩) i r1;rw[yT hm0,yr hm0]
  repeat (first|refine Tk ?_|intro _|exact Tz)
  refine WC.dF rfl Om ?_
  repeat (first|refine Tj ?_|intro _|refine WO.acall (hc:=hClip) (k:=?_)|refine Tc ?_|exact Tz)
  exact WX.ret2 rfl Rv.t Rv.t [⟨go,70,B++mkz (co - i) hzC⟩] (Lle.c Lle.nil) ⟨go,co,rfl,by rw[hBe]⟩
end
end Sx
end
section
open Go Go.RowKit Go.BigFrame
namespace Sx
section
variable {P:Program} {w0:World} {gs:LN} {n:Nat} {ops:List Oper} {Q:Exit→Act→World→Prop} {K:List (Nat × Value)} {L:List Ent} {rest:List Oper}
variable {d:Nat} {op:Op} {ty:TypeId} {pos:String} {after:Array Edge} {gd:Option (Nat × Bool)}
theorem WO.flip {A T:List Ent} (k:WO P w0 gs n ops Q K (A++T) rest):WO P w0 gs n ops Q K (T++A) rest:=fun a w h1 h2 h3 h4=>k a w h1 h2 h3 (h4.perm List.perm_append_comm)
theorem Pks.appC {M R:List Ent} (h:∀ e∈M,e.k=cellsK):Pks (M++R) M R:=by
 induction M with
 | nil=>exact .nil
 | cons e r ih =>
  obtain @⟨g,t,cs,k⟩:=e;have hk:k=cellsK:=h _ (List.mem_cons_self ..);subst hk;exact .cons .here (ih fun e he=>h e (List.mem_cons_of_mem _ he))
theorem WO.callsWV {f:FuncId} [Cal P f] {x:Operand} {xs:Array Operand} {ats:Array TypeId} {ar fs cs ar' : List Value} {A T:List Ent} {Rq:World→Prop} {post:Value→List Ent→Prop} (hc:FnL P f ar' T Rq post) (hx:ev K x=some (.func (.func f) fs.toArray cs.toArray)) (ha:evs K xs.toList=some ar) (hh:fs++ar++cs=ar')
  (hL:L=A++T) (hk:∀ e∈T,e.k=cellsK) (hR:∀ w,Mr w0 gs (T++A) w→Rq w) (k:∀ v N,post v N→WO P w0 gs n ops Q ((d,v)::K) (A++N) rest) (hd:Nat.blt d n=true:=by rfl) (hw:wk ops K gd=some true:=by rfl) :
  WO P w0 gs n ops Q K L (⟨some d,.call { callee:=.value x,args:=xs,argTypes:=ats },ty,pos,after,gd⟩::rest):=by
 subst hL;exact WO.flip (WO.callsLV hc hx ha hh (Pks.appC hk) hR (fun v N h=>WO.flip (k v N h)) hd hw)
theorem WO.callsW {f:FuncId} [Cal P f] {xs:Array Operand} {ats:Array TypeId} {ar:LV} {A T:List Ent} {Rq:World→Prop} {post:Value→List Ent→Prop} (hc:FnL P f ar T Rq post) (hL:L=A++T) (hk:∀ e∈T,e.k=cellsK) (hR:∀ w,Mr w0 gs (T++A) w→Rq w)
  (k:∀ v N,post v N→WO P w0 gs n ops Q ((d,v)::K) (A++N) rest) (ha:evs K xs.toList=some ar:=by rfl) (hd:Nat.blt d n=true:=by rfl) (hw:wk ops K gd=some true:=by rfl) :
  WO P w0 gs n ops Q K L (⟨some d,.call { callee:=.value (.func f),args:=xs,argTypes:=ats },ty,pos,after,gd⟩::rest) :=
 WO.callsWV (fs:=[]) (cs:=[]) hc rfl ha Sm hL hk hR k hd hw
end
attribute [local irreducible] wd DQ WO WC WX WT hOf
def wrE (gw g c:Nat) (B:LN) (n:Nat):List Ent:=⟨gw,217,[agV g c n n,.bool false]⟩::rwL 5 g (byC B) (mkz (c - n) [.int .u8 0]) n
theorem tN {gw g c n:Nat} {B:LN}:∀ e∈wrE gw g c B n,e.k=cellsK:=by
 intro e he;cases n with
 | zero=>simp[wrE,rwL] at he;rw[he]
 | succ n=>simp[wrE,rwL] at he;rcases he with h|h<;>rw[h]
def WrP (gw:Nat) (B:LN) (n:Nat):Value→List Ent→Prop:=fun v N=>∃ g c,v=.tuple #[]∧N=wrE gw g c B n∧(0<n→n≤c∧c<9223372036854775808)
section
variable (gw g c:Nat) (B:LN) (n:Nat)
theorem nQ (x k m:Nat) (hk0:0<k) (hk:k≤8) (hn:B.length=n) (hB:n≤100000) (hm:n+k=m):FnL Tryz.prog 124 [Sx.pt gw,.int .u64 (x:Int),.int .i64 (k:Int)] (wrE gw g c B n) Tr (WrP gw (B++be k x) m):=by
 obtain⟨l,rfl⟩ : ∃ l,m=l+1:=⟨m - 1,by omega⟩;have hl:(B++be k x).length=l+1:=by rw[List.length_append,zj];omega
 have hfin:∀ g1,wrE gw g1 (l+1) (B++be k x) (l+1)=[⟨gw,217,[AQ g1 (l+1) (l+1),.bool false]⟩,⟨g1,5,byC (B++be k x)⟩]:=fun g1=>by
  unfold wrE;simp only[agV,rwL,Nat.sub_self,mkz,List.replicate_zero,List.flatten_nil,List.append_nil]
 cases n with
 | zero =>
  have hB0:B=[]:=List.length_eq_zero_iff.1 hn;subst hB0;have hP:=nG [] x k 0 none hk Dtt;rw[hl] at hP;refine FnL.enter Tryz.func124 rfl rfl rfl ?_;intro w _;simp only[wrE,agV,rwL]
  repeat (first|refine Tk ?_|intro _|exact Tz)
  refine WO.acallN (hc:=hP) (hR:=fun _ _=>Rd.nil) (k:=fun g1=>?_)
  repeat (first|refine Tk ?_|intro _|exact Tz)
  exact WX.retP_ofN (N:=wrE gw g1 (l+1) ([]++be k x) (l+1)) (qA rfl) (by rw[hfin];repeat (first|exact Lle.nil|refine Lle.c ?_)) ⟨g1,l+1,rfl,rfl,fun _=>⟨by omega,by omega⟩⟩
 | succ n =>
  have hP:=nG B x k c (some ⟨g,0,none⟩) hk Om;rw[hl,hn] at hP;refine FnL.enter Tryz.func124 rfl rfl rfl ?_;intro w _;simp only[wrE,agV,rwL]
  repeat (first|refine Tk ?_|intro _|exact Tz)
  refine WO.acallN (hc:=hP) (hR:=fun wx hm=>Rd.of (Seg.preO (Hs.sg hm))) (k:=fun g1=>?_)
  repeat (first|refine Tk ?_|intro _|exact Tz)
  exact WX.retP_ofN (N:=wrE gw g1 (l+1) (B++be k x) (l+1)) (qA rfl) (by rw[hfin];repeat (first|exact Lle.nil|refine Lle.c ?_)) ⟨g1,l+1,rfl,rfl,fun _=>⟨by omega,by omega⟩⟩
theorem bs (H:LN) (m:Nat) (hH:H.length=32) (hn:B.length=n) (hB:n≤100000) (hm:n+32=m) (hr:0<n→n≤c∧c<9223372036854775808):FnL Tryz.prog 125 [Sx.pt gw,.agg (byC H).toArray] (wrE gw g c B n) Tr (WrP gw (B++H) m):=by
 have hbl:(byC H).length=32:=by rw[zd,hH]
 obtain⟨l,rfl⟩ : ∃ l,m=l+1:=⟨m - 1,by omega⟩;have hfin:∀ g1 c1,wrE gw g1 c1 (B++H) (l+1)=[⟨gw,217,[AQ g1 (l+1) c1,.bool false]⟩,⟨g1,5,byC B++byC H++mkz (c1 - (l+1)) [.int .u8 0]⟩]:=fun g1 c1=>by
  unfold wrE;simp only[agV,rwL,z8]
 refine FnL.enter Tryz.func125 rfl rfl rfl ?_;intro w _;unfold wrE
 repeat (first|refine Tk ?_|intro _|exact Tz)
 rename_i gh;refine WC.mainV [4,6,9] [(0,Ap gw),(1,Ap gw),(2,Ap gw),(3,Ap gw),(5,AQ gh 32 32),(7,Ap gw),(8,Ap gw)] Dtt ?_;refine WT.with [⟨gh,70,byC H⟩] Kr (Tlv.auto (Tlv.auto (Tlv.auto (Tlv.auto (Tlv.d rfl (yu rfl) (Tlv.auto (Tlv.auto Tlv.nil))))))) (fun hc hT=>?_)
 refine WT.one (m:=4) rfl hc hT ?_;refine Tw ?_;refine WO.nil (WX.wt [(8,agV g c n n)] ?_);refine WT.one (m:=6) rfl hc hT ?_;refine WO.appR (z:=[.int .u8 0]) (g:=g) (c:=c) (n:=n) (m:=32) (l:=l+1) (B:=byC B) (ys:=byC H) (L1:=[_,_]) (L2:=[]) rfl rfl rfl (by rw[List.append_nil];rfl) (by rw[zd,hn];simp) hr (Rds.own (m:=32) Hs.here (zt hbl)) (by rw[hbl];rfl) (zM H) Dtt hm Om Om Dtt Dtt (fun g1 c1 a1 a2=>?_);simp only[List.cons_append,List.nil_append];refine WO.nil (WX.wt [(10,AQ g1 (l+1) c1)] ?_);refine WT.one (m:=9) rfl hc hT ?_;refine WO.stores zo ?_;refine WO.nil (WX.wt [] ?_);refine WT.fin [9] 12 hc rfl Kr ?_;clear hc hT
 repeat (first|refine Tk ?_|intro _|exact Tz)
 exact WX.retP_ofN (N:=wrE gw g1 c1 (B++H) (l+1)) (qA rfl) (by rw[hfin];repeat (first|exact Lle.nil|refine Lle.c ?_|refine Lle.skp ?_)) ⟨g1,c1,rfl,rfl,fun _=>⟨a2,a1⟩⟩
end
theorem Seg.lt1 {w:World} {b o:Nat} {v:Value} {cs:LV} (h:Seg w b o (v::cs)):b<w.heap.size:=oT (h 0 v Sm)
theorem ic {f:Nat} [Cal Tryz.prog f] (caps:LV) (s:ByteArray) (B:LN) (n:Nat) (R:World→Prop) (R' : Nat→World→Prop) (hst:∀ w wx gw,R w→w.heap.size≤gw→Mod [] w wx→R' gw wx) (hs:s.size≤1000) (hn:B.length=n) (hn0:0<n) (hn1:n≤100000) (hB:∀ b∈B,b<256)
  (hf:∀ gw,FnL Tryz.prog f ([Sx.pt gw]++caps) [⟨gw,217,[.slice none 0 0,.bool false]⟩] (R' gw) (WrP gw B n)) :
  Fn Tryz.prog 52 [.string s,.func (.func f) #[] caps.toArray] R (Is (.agg (byC (hOf (zN s) [B])).toArray)):=by
 obtain⟨l,rfl⟩ : ∃ l,n=l+1:=⟨n - 1,by omega⟩;have hbl:(byC (hOf (zN s) [B])).length=32:=by rw[zd];exact zI _ _
 have hHof:=fun (B0 c:Nat) (gp:Nat)=>lI s [AQ B0 (l+1) c] [B] gp 0 1 (by simpa using hB) (by simp only[yG,uV,yM,List.flatMap_cons,List.flatMap_nil,List.length_append,zj,yb,List.length_nil];omega) Om;refine Fn.enter Tryz.func52 rfl rfl rfl ?_;intro w hw
 repeat (first|refine Tk ?_|intro _|exact Tz)
 rename_i gR gw;refine WO.mine (fun hmn=>?_);have hgw:w.heap.size≤gw:=(hmn _ (List.mem_cons_self ..)).resolve_right Sm;refine WO.callsLV (hc:=hf gw) rfl rfl rfl (.cons .here .nil) (fun wx hm=>hst _ _ _ hw hgw hm.mod) (fun v N hv=>?_);obtain⟨g,c,rfl,rfl,hr⟩:=hv;obtain⟨r1,r2⟩:=hr Om;simp only[wrE,agV,rwL,List.cons_append,List.nil_append]
 repeat (first|refine Tk ?_|intro _|exact Tz)
 refine WO.makes (zh (cs:=[AQ g (l+1) c]) rfl Dtt rfl) ?_;intro gp;refine WO.acallR (hc:=hHof g c gp) (hR:=fun wx hm=>⟨Hs.sg hm,z6.cons (by have:=RdP.own (t:=5) (g:=g) (X:=B) (r:=mkz (c - (l+1)) [.int .u8 0]) hm Hs.a Om r2;rw[hn] at this;exact this) z6.nil⟩) (k:=?_);generalize hOf (zN s) [B]=HS at *
 repeat (first|refine Tj ?_|intro _|refine WO.stores (zo (vs:=byC HS) (cs':=byC HS) (hl:=hbl) (h1:=zM HS) (hc:=zC (by rw[hbl];rfl)) (hle:=by rw[hbl];rfl)) ?_|refine Tc ?_|exact Tz)
 exact WX.aret1 (hr:=vF (vs:=byC HS) (hc:=zt hbl) (hl:=hbl)) (hp:=rfl)
structure Vt where
 ep:Nat
 v:Nat
 n:Nat
 S:List Nat
 c:Nat
 s:Nat
def vtC (x:Vt):List Value:=[.int .u8 2,.int .u64 (x.ep:Int),.int .u32 (x.v:Int),.int .u8 (x.n:Int)]++(byC x.S++vC x.c x.s)
def voB (x:Vt):List Nat:=[]++be 1 2++be 8 x.ep++be 4 x.v++be 1 x.n++x.S
def adO:ByteArray:=⟨#[118,111,116,101]⟩
def voH (x:Vt):List Nat:=hOf (zN adO) [voB x]
structure aeJ (x:Vt):Prop where
 ep:x.ep<18446744073709551616
 v:x.v<1000
 n:x.n<256
 S:∀ b∈x.S,b<256
 l:x.S.length=32
 c:x.c<ze
 s:x.s<ze
theorem vO {x:Vt} (h:x.S.length=32):(vtC x).length=44:=by
 unfold vtC;rw[List.length_append,List.length_append,zd,h];rfl
theorem qf (x:Vt):(vtC x).all Value.oneCell'=true:=by
 unfold vtC;rw[List.all_append,List.all_append,zM];rfl
theorem ahO {x:Vt} (h:x.S.length=32):cut (vtC x) 4 32=byC x.S:=by
 show cut (byC x.S++vC x.c x.s) 0 32=_;unfold cut;rw[List.drop_zero,← h,← zd,List.take_left]
theorem ah1 {x:Vt} (h:x.S.length=32):cut (vtC x) 36 8=vC x.c x.s:=by
 show cut (byC x.S++vC x.c x.s) 32 8=_;unfold cut;rw[← h,← zd,List.drop_left];rfl
theorem adV {x:Vt} (h:x.S.length=32):(voB x).length=46:=by
 unfold voB;simp only[List.length_append,zj,h,List.length_nil]
theorem agq {x:Vt} (h:∀ b∈x.S,b<256):∀ b∈voB x,b<256:=by
 unfold voB;intro b hb;simp only[List.mem_append,List.nil_append] at hb
 rcases hb with (((hb|hb)|hb)|hb)|hb
 ·exact yZ b hb
 ·exact yZ b hb
 ·exact yZ b hb
 ·exact yZ b hb
 ·exact h b hb
theorem afq (x:Vt) (gw:Nat) (hx:aeJ x):FnL Tryz.prog 179 [Sx.pt gw,.agg (vtC x).toArray] [⟨gw,217,[.slice none 0 0,.bool false]⟩] Tr (WrP gw (voB x) 46):=by
 have h1:IntKind.u64.wrap (2:Int)=((2:Nat):Int):=rfl;have h3:IntKind.u64.wrap (x.v:Int)=(x.v:Int):=u64_in Om (by have:=hx.v;omega);have h4:IntKind.u64.wrap (x.n:Int)=(x.n:Int):=u64_in Om (by have:=hx.n;omega);have b1:([]++be 1 2:LN).length=1:=by simp[zj]
 have b2:([]++be 1 2++be 8 x.ep:LN).length=9:=by simp[zj]
 have b3:([]++be 1 2++be 8 x.ep++be 4 x.v:LN).length=13:=by simp[zj]
 have b4:([]++be 1 2++be 8 x.ep++be 4 x.v++be 1 x.n:LN).length=14:=by simp[zj]
 refine FnL.enter Tryz.func179 rfl rfl rfl ?_;intro w _
 repeat (first|refine WO.does (zr rfl h1) ?_|refine Tj ?_|intro _|refine Tc ?_|exact Tz)
 refine WO.callsW (A:=[_]) (T:=wrE gw 0 0 [] 0) (hc:=nQ gw 0 0 [] 0 2 1 1 Dtt Dtt rfl Dtt rfl) rfl tN (fun _ _=>trivial) (fun v N hv=>?_);obtain⟨g1,c1,rfl,rfl,_⟩:=hv;simp only[List.singleton_append]
 repeat (first|refine Tk ?_|intro _|exact Tz)
 refine WO.callsW (A:=[_]) (T:=wrE gw g1 c1 _ 1) (hc:=nQ gw g1 c1 _ 1 x.ep 8 9 Dtt Dtt b1 Dtt rfl) rfl tN (fun _ _=>trivial) (fun v N hv=>?_);obtain⟨g2,c2,rfl,rfl,_⟩:=hv;simp only[List.singleton_append]
 repeat (first|refine WO.does (zr rfl h3) ?_|refine Tj ?_|intro _|refine Tc ?_|exact Tz)
 refine WO.callsW (A:=[_]) (T:=wrE gw g2 c2 _ 9) (hc:=nQ gw g2 c2 _ 9 x.v 4 13 Dtt Dtt b2 Dtt rfl) rfl tN (fun _ _=>trivial) (fun v N hv=>?_);obtain⟨g3,c3,rfl,rfl,_⟩:=hv;simp only[List.singleton_append]
 repeat (first|refine WO.does (zr rfl h4) ?_|refine Tj ?_|intro _|refine Tc ?_|exact Tz)
 refine WO.callsW (A:=[_]) (T:=wrE gw g3 c3 _ 13) (hc:=nQ gw g3 c3 _ 13 x.n 1 14 Dtt Dtt b3 Dtt rfl) rfl tN (fun _ _=>trivial) (fun v N hv=>?_);obtain⟨g4,c4,rfl,rfl,hr4⟩:=hv;simp only[List.singleton_append]
 repeat (first|refine WO.does (zw (vs:=byC x.S) (hc:=ahO hx.l) (hl:=by rw[zd,hx.l])) ?_|refine Tj ?_|intro _|refine Tc ?_|exact Tz)
 refine WO.callsW (A:=[_]) (T:=wrE gw g4 c4 _ 14) (hc:=bs gw g4 c4 _ 14 x.S 46 hx.l b4 Dtt rfl hr4) rfl tN (fun _ _=>trivial) (fun v N hv=>?_);obtain⟨g5,c5,rfl,rfl,hr5⟩:=hv;simp only[List.singleton_append]
 repeat (first|refine Tk ?_|intro _|exact Tz)
 exact WX.retP_ofN (N:=wrE gw g5 c5 (voB x) 46) (qA rfl) (Lle.skp Lle.left') ⟨g5,c5,rfl,rfl,hr5⟩
theorem adP (x:Vt) (gw gv:Nat) (hx:aeJ x):FnL Tryz.prog 178 ([Sx.pt gw]++[Sx.pt gv]) [⟨gw,217,[.slice none 0 0,.bool false]⟩] (fun w=>Seg w gv 0 (vtC x)∧gv<gw) (WrP gw (voB x) 46):=by
 refine FnL.enter Tryz.func178 rfl rfl rfl ?_;intro w hw;obtain⟨hw,hlt⟩:=hw;have hvl:=vO hx.l
 repeat (first|refine WO.does (zn (vs:=vtC x) (hs:=hw) (hle:=Nat.zero_le _) (hb:=by simp;omega) (hc:=zt hvl) (hl:=hvl)) ?_|refine Tj ?_|intro _|refine Tc ?_|exact Tz)
 refine WO.callsL (hc:=afq x gw hx) (hp:=.cons .here .nil) (fun _ _=>trivial) (fun v N hv=>?_);obtain⟨g5,c5,rfl,rfl,hr5⟩:=hv;simp only[List.append_nil]
 repeat (first|refine Tk ?_|intro _|exact Tz)
 exact WX.retP_ofN (N:=wrE gw g5 c5 (voB x) 46) (qA rfl) Lle.left' ⟨g5,c5,rfl,rfl,hr5⟩
theorem bg (x:Vt) (hx:aeJ x):Fn Tryz.prog 110 [.agg (vtC x).toArray] Tr (Is (.agg (byC (voH x)).toArray)):=by
 have hvl:=vO hx.l;have hbl:(byC (voH x)).length=32:=by rw[zd];exact zI _ _
 have hH:=fun gv=>ic (f:=178) [Sx.pt gv] adO (voB x) 46 (fun w=>Seg w gv 0 (vtC x)) (fun gw w=>Seg w gv 0 (vtC x)∧gv<gw) (fun w wx gw h1 h2 h3=>⟨h1.mod h3 Sm,Nat.lt_of_lt_of_le (Seg.lt1 h1) h2⟩) Dtt (adV hx.l) Dtt Dtt (agq hx.S) (fun gw=>adP x gw gv hx);rw[show hOf (zN adO) [voB x]=voH x from rfl] at hH;generalize voH x=HS at *;refine Fn.enter Tryz.func110 rfl rfl rfl ?_;intro w hw
 repeat (first|refine WO.does (zH rfl rfl) ?_|refine Tj ?_|intro _|refine Tc ?_|exact Tz)
 rename_i gv gR;refine WO.acallR (hc:=hH gv) (hR:=fun wx hm=>Hs.sg hm) (k:=?_)
 repeat (first|refine Tj ?_|intro _|refine WO.stores (zo (vs:=byC HS) (cs':=byC HS) (hl:=hbl) (h1:=zM HS) (hc:=zC (by rw[hbl];rfl)) (hle:=by rw[hbl];rfl)) ?_|refine Tc ?_|exact Tz)
 exact WX.aret1 (hr:=vF (vs:=byC HS) (hc:=zt hbl) (hl:=hbl)) (hp:=rfl)
end Sx
end
end Go.Proofs.YtiaibpcaloigkaaGreatDoor
