/- Part 49 of the proof. -/
import Derived.Test.YtiaibpcaloigkaaGreatDoorE47
set_option linter.unusedSimpArgs false
set_option linter.unusedVariables false
set_option maxHeartbeats 8000000
namespace Go.Proofs.YtiaibpcaloigkaaGreatDoor
section
open Go Go.RowKit Go.BigFrame
namespace Sx
attribute [local irreducible] DQ WC WO WX wd
def whC (ep:Nat) (ah:LN) (cep:Nat) (sD sV sO l o s:Value):List Value:=.int .u64 (ep:Int)::(byC ah++[.int .u64 (cep:Int),sD,sV,sO,l,o,s])
section
variable {ep cep:Nat} {ah:LN} {sD sV sO l o s:Value}
theorem vG (h:ah.length=32):(whC ep ah cep sD sV sO l o s).length=40:=by unfold whC;rw[List.length_cons,List.length_append,zd,h];rfl
theorem ra (h:ah.length=32) (j:Nat):(whC ep ah cep sD sV sO l o s)[33+j]?=[.int .u64 (cep:Int),sD,sV,sO,l,o,s][j]?:=by
 have hb:(byC ah).length=32:=by rw[zd,h]
 unfold whC;rw[show 33+j=(32+j)+1 from by omega,List.getElem?_cons_succ,List.getElem?_append_right Om,hb,Nat.add_sub_cancel_left]
theorem sI (h:ah.length=32) (j:Nat) (v:Value):over (whC ep ah cep sD sV sO l o s) (33+j) [v]=.int .u64 (ep:Int)::(byC ah++over [.int .u64 (cep:Int),sD,sV,sO,l,o,s] j [v]):=by
 have hb:(byC ah).length+1=33:=by rw[zd,h]
 unfold whC;rw[← List.cons_append,yK (A:=.int .u64 (ep:Int)::byC ah) (n:=33) (by rw[List.length_cons];exact hb)];rfl
theorem ac9 {x:Value} (h:ah.length=32):over (whC ep ah cep sD sV sO l o s) 34 [x]=whC ep ah cep x sV sO l o s:=sI h 1 x
theorem ac8 {x:Value} (h:ah.length=32):over (whC ep ah cep sD sV sO l o s) 35 [x]=whC ep ah cep sD x sO l o s:=sI h 2 x
theorem acM {x:Value} (h:ah.length=32):over (whC ep ah cep sD sV sO l o s) 36 [x]=whC ep ah cep sD sV x l o s:=sI h 3 x
theorem adI {x:Value} (h:ah.length=32):over (whC ep ah cep sD sV sO l o s) 37 [x]=whC ep ah cep sD sV sO x o s:=sI h 4 x
theorem acP {x:Value} (h:ah.length=32):over (whC ep ah cep sD sV sO l o s) 38 [x]=whC ep ah cep sD sV sO l x s:=sI h 5 x
theorem adP {x:Value} (h:ah.length=32):over (whC ep ah cep sD sV sO l o s) 39 [x]=whC ep ah cep sD sV sO l o x:=sI h 6 x
theorem abQ (h1:sD.oneCell'=true) (h2:sV.oneCell'=true) (h3:sO.oneCell'=true) (h4:l.oneCell'=true) (h5:o.oneCell'=true) (h6:s.oneCell'=true):(whC ep ah cep sD sV sO l o s).all Value.oneCell'=true:=by
 unfold whC;rw[List.all_cons,List.all_append,zV];simp[h1,h2,h3,h4,h5,h6];exact⟨rfl,rfl⟩
theorem agE:bkC ep ah cep sD sV sO++[l,o,s]=whC ep ah cep sD sV sO l o s:=by unfold bkC whC;simp
end
abbrev whZ:List Value:=.int .u64 0::(List.replicate 32 (.int .u8 0)++[.int .u64 0,.slice none 0 0,.slice none 0 0,.slice none 0 0,.slice none 0 0,.slice none 0 0,.slice none 0 0])
def ddM (M:List Ent) (T:List (Dd × Dk)):Prop:=∀ w:World,(∀ e∈M,e.ok w)→∀ y∈T,bC w y.1 y.2
def swM (M:List Ent) (S:List Sw):Prop:=∀ w:World,(∀ e∈M,e.ok w)→∀ x∈S,RdF zc (.slice x.pt x.P.length x.c) x.P w
def TwP (ep:Nat) (ah:LN) (cep:Nat) (HL:List (List Nat)) (VL:List Vt) (OL:List (List Nat)) (T:List (Dd × Dk)) (SH:List Sw):Value→List Ent→Prop:=fun v L =>
 ∃ gh rh gv rv go ro gl rl gs rs T' S' M,v=.agg (whC ep ah cep (AQ gh HL.length HL.length) (AQ gv VL.length VL.length) (AQ go OL.length OL.length) (AQ gl T.length T.length) (.slice none 0 0) (AQ gs SH.length SH.length)).toArray ∧
  L=⟨gh,70,HL.flatMap byC++mkz rh hzC⟩::⟨gv,140,VL.flatMap vtC++mkz rv vtZ⟩::⟨go,70,OL.flatMap byC++mkz ro hzC⟩::⟨gl,51,T'.flatMap (ddC ep)++mkz rl dzC⟩::⟨gs,53,S'.flatMap swC++mkz rs swZ⟩::M ∧
  T'.map Prod.fst=T.map Prod.fst∧S'.map (fun x=>(x.e,x.d,x.P))=SH.map (fun x=>(x.e,x.d,x.P))∧(∀ x∈S',x.c=x.P.length)∧ddM M T'∧swM M S'
theorem jm {α:Type} {l:List α} {i:Nat} {x:α} (h:l[i]?=some x):l.set i x=l:=by
 refine List.ext_getElem? fun j=>?_;rw[List.getElem?_set];split
 ·next e=>subst e;rw[h];simp[(List.getElem?_eq_some_iff.1 h).1]
 ·rfl
theorem rJ {α:Type} {l:List α} {i:Nat} {x:α} (h:i<l.length):(l.set i x).take (i+1)=l.take i++[x]:=by
 rw[List.take_add_one,List.getElem?_set_self h,List.take_set_of_le (Nat.le_refl _)];rfl
theorem ddM.nil {M:List Ent}:ddM M []:=fun _ _ _ h=>by cases h
theorem swM.nil {M:List Ent}:swM M []:=fun _ _ _ h=>by cases h
theorem ddM.snoc {M:List Ent} {T:List (Dd × Dk)} {y:Dd × Dk} (h:ddM M T):ddM (ddL y.1 y.2++M) (T++[y]):=fun w he x hx=>by
 rcases List.mem_append.1 hx with hx|hx
 ·exact h w (fun e h1=>he e (List.mem_append_right _ h1)) x hx
 ·rw[List.mem_singleton.1 hx];exact bC.of fun e h1=>he e (List.mem_append_left _ h1)
theorem ddM.more {M R:List Ent} {T:List (Dd × Dk)} (h:ddM M T):ddM (R++M) T:=fun w he x hx=>h w (fun e h1=>he e (List.mem_append_right _ h1)) x hx
theorem swM.left {M R:List Ent} {S:List Sw} (h:swM M S):swM (M++R) S:=fun w he x hx=>h w (fun e h1=>he e (List.mem_append_left _ h1)) x hx
theorem swM.snoc {M:List Ent} {S:List Sw} {x:Sw} {g r:Nat} (h:swM M S) (hp:x.pt=some ⟨g,0,none⟩):swM (⟨g,24,x.P.flatMap zc++mkz r (zc 0)⟩::M) (S++[x]):=fun w he z hz=>by
 rcases List.mem_append.1 hz with hz|hz
 ·exact h w (fun e h1=>he e (List.mem_cons_of_mem _ h1)) z hz
 ·rw[List.mem_singleton.1 hz,hp];have:=Ent.ok.seg (he _ (List.mem_cons_self ..)) 0;rw[List.drop_zero] at this;exact RdF.ownO this rfl
section
variable (ep:Nat) (ah:LN) (cep:Nat) (pH pV pO pD pS:Option Addr) (cH cV cO cD cS:Nat) (HL:List (List Nat)) (VL:List Vt) (OL:List (List Nat)) (T:List (Dd × Dk)) (SH:List Sw)
theorem acH (hal:ah.length=32) (h1:0<HL.length∧HL.length≤1000) (h1b:∀ X∈HL,X.length=32) (h2:0<VL.length∧VL.length≤1000) (h2b:∀ x∈VL,x.S.length=32) (h3:0<OL.length∧OL.length≤1000) (h3b:∀ X∈OL,X.length=32)
  (h4:0<T.length∧T.length≤1000) (h4b:∀ y∈T,cR y.1) (h5:0<SH.length∧SH.length≤1000) (h5b:∀ x∈SH,0<x.P.length∧x.P.length≤1000) :
  Fn Tryz.prog 51 [.agg (whC ep ah cep (.slice pH HL.length cH) (.slice pV VL.length cV) (.slice pO OL.length cO) (.slice pD T.length cD) (.slice none 0 0) (.slice pS SH.length cS)).toArray]
   (fun w=>RdF byC (.slice pH HL.length cH) HL w∧RdF vtC (.slice pV VL.length cV) VL w∧RdF byC (.slice pO OL.length cO) OL w∧EvR ep pD cD T none 0 [] pS cS SH w) (TwP ep ah cep HL VL OL T SH):=by
 have k1:=jb pH cH HL h1b h1.1 h1.2;have k2:=aQ pV cV VL h2b h2.1 h2.2;have k3:=jb pO cO OL h3b h3.1 h3.2;have k4:=aaP pD cD ep T h4.1 h4.2;have k5:=abB pS cS SH h5.1 h5.2;have hwh:=vG (ep:=ep) (cep:=cep) (sD:=.slice pH HL.length cH) (sV:=.slice pV VL.length cV) (sO:=.slice pO OL.length cO) (l:=.slice pD T.length cD) (o:=.slice none 0 0) (s:=.slice pS SH.length cS) hal;refine Fn.enter Tryz.func51 rfl rfl rfl ?_;intro w hw;obtain⟨wH,wV,wO,wE⟩:=hw
 repeat (first|refine Tk ?_|intro _|exact Tz)
 rename_i gW gR;refine WC.adraw 20 (k:=?_)
 iterate 3 refine Dx ?_
 refine DQ.does (fun s _=>zw (hc:=ra hal 1)) Dp.const ?_;refine DQ.acallXT (hc:=k1) (hS:=⟨fun _=>HL.length,Nat.le_refl _,by show HL.length<9223372036854775808;omega⟩) (hR:=fun w1 hm=>wH.mod hm.mod) (k:=?_);refine DQ.call (v:=fun s=>AQ (s 4 0) HL.length HL.length) (fun s hC=>kd (s 4 1) (some ⟨s 4 0,0,none⟩) HL.length hC.2.1) (fun s=>rfl) (fun _ _ _ _=>trivial) (by intro s s' h;dsimp only;rw[h]<;>decide +kernel) ?_
 iterate 3 refine Dx ?_
 refine DQ.does (fun s _=>zw (hc:=ra hal 2)) Dp.const ?_;refine DQ.acallXT (hc:=k2) (hS:=⟨fun _=>VL.length,Nat.le_refl _,by show VL.length<9223372036854775808;omega⟩) (hR:=fun w1 hm=>wV.mod hm.mod) (k:=?_);refine DQ.call (v:=fun s=>AQ (s 10 0) VL.length VL.length) (fun s hC=>adS (s 10 1) (some ⟨s 10 0,0,none⟩) VL.length hC.2.1) (fun s=>rfl) (fun _ _ _ _=>trivial) (by intro s s' h;dsimp only;rw[h]<;>decide +kernel) ?_
 iterate 2 refine Dx ?_
 refine DQ.does (fun s _=>zw (hc:=ra hal 3)) Dp.const ?_;refine DQ.acallXT (hc:=k3) (hS:=⟨fun _=>OL.length,Nat.le_refl _,by show OL.length<9223372036854775808;omega⟩) (hR:=fun w1 hm=>wO.mod hm.mod) (k:=?_);refine DQ.call (v:=fun s=>AQ (s 15 0) OL.length OL.length) (fun s hC=>kd (s 15 1) (some ⟨s 15 0,0,none⟩) OL.length hC.2.1) (fun s=>rfl) (fun _ _ _ _=>trivial) (by intro s s' h;dsimp only;rw[h]<;>decide +kernel) ?_
 iterate 3 refine Dx ?_
 refine DQ.anil (k:=?_);intro sx _
 try simp only[List.map_cons,List.map_nil,List.cons_append,List.nil_append]
 generalize sx 4 0=gh;generalize sx 4 1 - HL.length=rh;generalize sx 10 0=gv;generalize sx 10 1 - VL.length=rv;generalize sx 15 0=go;generalize sx 15 1 - OL.length=ro
 repeat (first|refine WO.stores (zo (vs:=[AQ gh HL.length HL.length]) (hc:=ac9 hal) (hle:=by rw[vG hal];rfl)) ?_|refine WO.stores (zo (vs:=[AQ gv VL.length VL.length]) (hc:=ac8 hal) (hle:=by rw[vG hal];rfl)) ?_|refine WO.stores (zo (vs:=[AQ go OL.length OL.length]) (hc:=acM hal) (hle:=by rw[vG hal];rfl)) ?_|refine Tj ?_|intro _|refine Tc ?_|exact Tz)
 refine WC.adraw 17 (k:=?_)
 iterate 2 refine Dx ?_
 refine DQ.does (fun s _=>zw (hc:=ra hal 4)) Dp.const ?_;refine DQ.acallXT (hc:=k4) (hS:=⟨fun _=>T.length,Nat.le_refl _,by show T.length<9223372036854775808;omega⟩) (hR:=fun w1 hm=>wE.d.mod hm.mod) (k:=?_);refine DQ.call (v:=fun s=>AQ (s 3 0) T.length T.length) (fun s hC=>adA (s 3 1) (some ⟨s 3 0,0,none⟩) T.length hC.2.1) (fun s=>rfl) (fun _ _ _ _=>trivial) (by intro s s' h;dsimp only;rw[h]<;>decide +kernel) ?_
 iterate 2 refine Dx ?_
 refine DQ.does (fun s _=>zw (hc:=ra hal 5)) Dp.const ?_;refine DQ.acall (hc:=aI) (k:=?_);refine DQ.acall (hc:=aeJ 0 none 0 (Nat.le_refl _)) (k:=?_)
 iterate 2 refine Dx ?_
 refine DQ.does (fun s _=>zw (hc:=ra hal 6)) Dp.const ?_;refine DQ.acallXT (hc:=k5) (hS:=⟨fun _=>SH.length,Nat.le_refl _,by show SH.length<9223372036854775808;omega⟩) (hR:=fun w1 hm=>wE.s.mod hm.mod) (k:=?_);refine DQ.call (v:=fun s=>AQ (s 13 0) SH.length SH.length) (fun s hC=>acy (s 13 1) (some ⟨s 13 0,0,none⟩) SH.length hC.2.1) (fun s=>rfl) (fun _ _ _ _=>trivial) (by intro s s' h;dsimp only;rw[h]<;>decide +kernel) ?_
 iterate 2 refine Dx ?_
 refine DQ.anil (k:=?_);intro sx _
 try simp only[List.map_cons,List.map_nil,List.cons_append,List.nil_append]
 generalize sx 3 0=gl;generalize sx 3 1 - T.length=rl;generalize sx 13 0=gs;generalize sx 13 1 - SH.length=rs
 repeat (first|refine WO.stores (zo (vs:=[AQ gl T.length T.length]) (hc:=adI hal) (hle:=by rw[vG hal];rfl)) ?_|refine WO.stores (zo (vs:=[.slice none 0 0]) (hc:=acP hal) (hle:=by rw[vG hal];rfl)) ?_|refine WO.stores (zo (vs:=[AQ gs SH.length SH.length]) (hc:=adP hal) (hle:=by rw[vG hal];rfl)) ?_|refine WO.does (zw (hc:=ra hal 4)) ?_|refine Tj ?_|intro _|refine Tc ?_|exact Tz)
 refine WC.loopI (σ:=Nat × List (Dd × Dk) × List Ent) (fun s=>s.1≤T.length∧s.2.1.length=T.length∧(∀ j,s.1≤j→s.2.1[j]?=T[j]?)∧s.2.1.map Prod.fst=T.map Prod.fst∧ddM s.2.2 (s.2.1.take s.1))
  (fun s=>[(1,Ap gW),(2,Ap gR),(55,AQ gl T.length T.length),(56,.int .i64 (T.length:Int)),(57,.int .i64 (s.1:Int))])
  (fun s=>⟨gl,51,s.2.1.flatMap (ddC ep)++mkz rl dzC⟩::⟨gW,144,whC ep ah cep (AQ gh HL.length HL.length) (AQ gv VL.length VL.length) (AQ go OL.length OL.length) (AQ gl T.length T.length) (.slice none 0 0) (AQ gs SH.length SH.length)⟩::⟨gR,144,whZ⟩::⟨go,70,OL.flatMap byC++mkz ro hzC⟩::⟨gv,140,VL.flatMap vtC++mkz rv vtZ⟩::⟨gh,70,HL.flatMap byC++mkz rh hzC⟩::⟨gs,53,SH.flatMap swC++mkz rs swZ⟩::s.2.2) (fun s=>T.length - s.1) (0,T,[]) (fun s hs=>?_) ⟨Nat.zero_le _,rfl,fun _ _=>rfl,rfl,ddM.nil⟩ (hl:=(by repeat (first|exact Lle.nil|exact Lle.same|refine Lle.cons Pk.a (by rfl) ?_|refine Lle.skip ?_)))
 ·obtain⟨i,Ti,M⟩:=s;obtain⟨hi,hTl,hTe,hTm,hM⟩:=hs
  try dsimp only at hi hTl hTe hTm hM ⊢
  by_cases hlt:i<T.length
  ·obtain⟨y,hy⟩ : ∃ y,T[i]?=some y:=⟨_,List.getElem?_eq_getElem hlt⟩;have hyi:=(hTe i (Nat.le_refl _)).trans hy;have hyT:=List.mem_of_getElem? hy;have hf:=h4b y hyT;have f1:0<y.1.V.length∧y.1.V.length≤1000:=⟨List.length_pos_iff.2 hf.v,by have:=hf.vl;omega⟩;have f2:0<y.1.Y.length∧y.1.Y.length≤1000:=⟨List.length_pos_iff.2 hf.y,by have:=hf.yl;omega⟩;have f3:0<y.1.P.length∧y.1.P.length≤1000:=⟨List.length_pos_iff.2 hf.p,by have:=hf.pl;omega⟩;have j1:=oF (some ⟨y.2.v,0,none⟩) y.1.V.length y.1.V f1.1 f1.2;have j2:=oF (some ⟨y.2.y,0,none⟩) y.1.Y.length y.1.Y f2.1 f2.2;have j3:=aG (some ⟨y.2.p,0,none⟩) y.1.P.length y.1.P f3.1 f3.2;have hadd:IntKind.i64.wrap ((i:Int)+1)=((i+1:Nat):Int):=zl Om Om Om;have hcy:∀ r,cut (Ti.flatMap (ddC ep)++r) (0+i*13) 13=ddC ep y:=fun r=>by
    rw[Nat.zero_add];exact tS (k:=13) (fun _ _=>rfl) hyi
   have hle:∀ (A:List (Dd × Dk)) (r:LV) (j:Nat),A.length=T.length→j<13→Nat.ble (0+i*13+j+1) (A.flatMap (ddC ep)++r).length=true:=fun A r j hA hj=>Nat.ble_eq_true_of_le (by rw[List.length_append,yU (k:=13) (fun _ _=>rfl),hA];omega);have hov:∀ (A:List (Dd × Dk)) (a b:Dd × Dk) (j:Nat) (vs r:LV),A[i]?=some a→(∀ r,over (ddC ep a++r) j vs=ddC ep b++r)→over (A.flatMap (ddC ep)++r) (0+i*13+j) vs=(A.set i b).flatMap (ddC ep)++r:=fun A a b j vs r h1 h2=>by
    rw[Nat.zero_add];exact dA (K:=13) (fun _=>rfl) h1 h2
   have hse:∀ b,(Ti.set i b)[i]?=some b:=fun b=>List.getElem?_set_self Om
   repeat (first|refine Tk ?_|intro _|exact Tz)
   refine WC.dT rfl Om ?_
   repeat (first|refine WO.does (zb (o':=0+i*13) rfl rfl hlt rfl) ?_|refine WO.does (zr (vs:=ddC ep y) (hc:=hcy _) (hl:=rfl)) ?_|refine WO.stores (zo (vs:=ddC ep y) (cs':=ddC ep y) (hl:=rfl) (h1:=rfl) (hc:=zI rfl) (hle:=rfl)) ?_|refine Tj ?_|intro _|refine Tc ?_|exact Tz)
   rename_i gd;refine WC.mainV [14,15,18,19,22,23,26,29,32] [(0,.pointer (some ⟨gW,37,none⟩)),(1,.pointer (some ⟨gW,37,none⟩)),(2,AQ gl T.length T.length),(3,.int .i64 (i:Int)),(4,.pointer (some ⟨gW,37,none⟩)),(5,.pointer (some ⟨gW,37,none⟩)),(6,AQ gl T.length T.length),(7,.int .i64 (i:Int)),(8,.pointer (some ⟨gW,37,none⟩)),(9,.pointer (some ⟨gW,37,none⟩)),(10,AQ gl T.length T.length),(11,.int .i64 (i:Int)),(12,.pointer (some ⟨gd,2,none⟩)),(13,AQ y.2.v y.1.V.length y.1.V.length),(16,.pointer (some ⟨gd,3,none⟩)),(17,AQ y.2.y y.1.Y.length y.1.Y.length),(20,.pointer (some ⟨gd,4,none⟩)),(21,AQ y.2.p y.1.P.length y.1.P.length),(24,.pointer (some ⟨gl,0+i*13,none⟩)),(25,.pointer (some ⟨gl,0+i*13+2,none⟩)),(27,.pointer (some ⟨gl,0+i*13,none⟩)),(28,.pointer (some ⟨gl,0+i*13+3,none⟩)),(30,.pointer (some ⟨gl,0+i*13,none⟩)),(31,.pointer (some ⟨gl,0+i*13+4,none⟩))] Dt ?_;refine WT.with [⟨gW,144,whC ep ah cep (AQ gh HL.length HL.length) (AQ gv VL.length VL.length) (AQ go OL.length OL.length) (AQ gl T.length T.length) (.slice none 0 0) (AQ gs SH.length SH.length)⟩,⟨gd,51,ddC ep y⟩] Kr (Tlv.auto (Tlv.auto (Tlv.d rfl (zw (hc:=ra hal 4)) (Tlv.auto (Tlv.auto (Tlv.auto (Tlv.d rfl (zw (hc:=ra hal 4)) (Tlv.auto (Tlv.auto (Tlv.auto (Tlv.d rfl (zw (hc:=ra hal 4)) (Tlv.auto (Tlv.auto (Tlv.d rfl zw (Tlv.auto (Tlv.d rfl zw (Tlv.auto (Tlv.d rfl zw (Tlv.d rfl (zb (o':=0+i*13) rfl rfl hlt rfl) (Tlv.d rfl yu (Tlv.d rfl (zb (o':=0+i*13) rfl rfl hlt rfl) (Tlv.d rfl yu (Tlv.d rfl (zb (o':=0+i*13) rfl rfl hlt rfl) (Tlv.d rfl yu Tlv.nil)))))))))))))))))))))))) (fun hc hT=>?_)
   refine WT.one (m:=14) rfl hc hT ?_;refine WO.callsL (hc:=Fn.toL j1) (hp:=.nil) (hR:=fun wx hm=>(wE.a y hyT).v.mod hm.mod) (k:=fun v1 N1 hv=>?_);obtain⟨sx,rfl,rfl,hlgV,_⟩:=hv;simp only[List.cons_append,List.nil_append];generalize sx 0=gV at *;generalize sx 1=xV at *;refine WO.nil (WX.wt [(76,AQ gV y.1.V.length xV)] ?_);refine WT.one (m:=15) rfl hc hT ?_;refine WO.acall (hc:=kh xV (some ⟨gV,0,none⟩) y.1.V.length hlgV) (k:=?_);refine WO.nil (WX.wt [(77,AQ gV y.1.V.length y.1.V.length)] ?_);refine WT.one (m:=18) rfl hc hT ?_;refine WO.callsL (hc:=Fn.toL j2) (hp:=.nil) (hR:=fun wx hm=>(wE.a y hyT).y.mod hm.mod) (k:=fun v1 N1 hv=>?_);obtain⟨sx,rfl,rfl,hlgY,_⟩:=hv;simp only[List.cons_append,List.nil_append];generalize sx 0=gY at *;generalize sx 1=xY at *;refine WO.nil (WX.wt [(80,AQ gY y.1.Y.length xY)] ?_);refine WT.one (m:=19) rfl hc hT ?_;refine WO.acall (hc:=kh xY (some ⟨gY,0,none⟩) y.1.Y.length hlgY) (k:=?_);refine WO.nil (WX.wt [(81,AQ gY y.1.Y.length y.1.Y.length)] ?_);refine WT.one (m:=22) rfl hc hT ?_;refine WO.callsL (hc:=Fn.toL j3) (hp:=.nil) (hR:=fun wx hm=>(wE.a y hyT).p.mod hm.mod) (k:=fun v1 N1 hv=>?_);obtain⟨sx,rfl,rfl,hlgP,_⟩:=hv;simp only[List.cons_append,List.nil_append];generalize sx 0=gP at *;generalize sx 1=xP at *;refine WO.nil (WX.wt [(84,AQ gP y.1.P.length xP)] ?_);refine WT.one (m:=23) rfl hc hT ?_;refine WO.acall (hc:=aer xP (some ⟨gP,0,none⟩) y.1.P.length hlgP) (k:=?_);refine WO.nil (WX.wt [(85,AQ gP y.1.P.length y.1.P.length)] ?_);generalize xV - y.1.V.length=rV;generalize xY - y.1.Y.length=rY;generalize xP - y.1.P.length=rP;have q1:(Ti.set i (y.1,⟨gV,y.2.y,y.2.p,rV,y.2.ry,y.2.rp⟩))[i]?=some (y.1,⟨gV,y.2.y,y.2.p,rV,y.2.ry,y.2.rp⟩):=hse _;have q2:((Ti.set i (y.1,⟨gV,y.2.y,y.2.p,rV,y.2.ry,y.2.rp⟩)).set i (y.1,⟨gV,gY,y.2.p,rV,rY,y.2.rp⟩))[i]?=some (y.1,⟨gV,gY,y.2.p,rV,rY,y.2.rp⟩):=by rw[List.set_set];exact hse _
   refine WT.one (m:=26) rfl hc hT ?_;refine WO.stores (zo (vs:=[AQ gV y.1.V.length y.1.V.length]) (hc:=hov _ _ (y.1,⟨gV,y.2.y,y.2.p,rV,y.2.ry,y.2.rp⟩) 2 _ _ hyi (fun r=>rfl)) (hle:=hle _ _ 2 (by simp[hTl]) Dt)) ?_;refine WO.nil (WX.wt [] ?_);refine WT.one (m:=29) rfl hc hT ?_;refine WO.stores (zo (vs:=[AQ gY y.1.Y.length y.1.Y.length]) (hc:=hov _ _ (y.1,⟨gV,gY,y.2.p,rV,rY,y.2.rp⟩) 3 _ _ q1 (fun r=>rfl)) (hle:=hle _ _ 3 (by simp[hTl]) Dt)) ?_;refine WO.nil (WX.wt [] ?_);refine WT.one (m:=32) rfl hc hT ?_;refine WO.stores (zo (vs:=[AQ gP y.1.P.length y.1.P.length]) (hc:=hov _ _ (y.1,⟨gV,gY,gP,rV,rY,rP⟩) 4 _ _ q2 (fun r=>rfl)) (hle:=hle _ _ 4 (by simp[hTl]) Dt)) ?_;refine WO.nil (WX.wt [] ?_);refine WT.fin [32] 6 hc rfl Kr ?_;clear hc hT;simp only[List.set_set]
   repeat (first|refine WO.does (zi rfl rfl hadd) ?_|refine Tj ?_|intro _|refine Tc ?_|exact Tz)
   refine WX.metI (i+1,Ti.set i (y.1,⟨gV,gY,gP,rV,rY,rP⟩),⟨gV,24,y.1.V.flatMap zc++mkz rV (zc 0)⟩::⟨gY,24,y.1.Y.flatMap zc++mkz rY (zc 0)⟩::⟨gP,117,y.1.P.flatMap pfC++mkz rP (vK 0 0)⟩::M) (hl:=(by repeat (first|exact Lle.nil|exact Lle.same|refine Lle.cons Pk.a (by rfl) ?_|refine Lle.skip ?_))) (hs:=⟨⟨?_,?_,?_,?_,?_⟩,by show T.length - (i+1)<T.length - i;omega⟩)
   ·show i+1≤T.length;omega
   ·show (Ti.set i _).length=_;rw[List.length_set,hTl]
   ·intro j hj;show (Ti.set i _)[j]?=_;rw[List.getElem?_set_ne (by have:i+1≤j:=hj;omega)];exact hTe j (by have:i+1≤j:=hj;omega)
   ·show (Ti.set i _).map Prod.fst=_;rw[List.map_set,hTm];exact jm (by rw[List.getElem?_map,hy];rfl)
   ·show ddM _ ((Ti.set i _).take (i+1));rw[rJ Om];exact ddM.snoc (y:=(y.1,⟨gV,gY,gP,rV,rY,rP⟩)) hM
  ·have hi2:i=T.length:=by omega
   subst hi2;rw[show Ti.take T.length=Ti from by rw[← hTl,List.take_length]] at hM
   repeat (first|refine Tk ?_|intro _|exact Tz)
   refine WC.dF rfl Om ?_
   repeat (first|refine WO.does (zw (hc:=ra hal 6)) ?_|refine Tj ?_|intro _|refine Tc ?_|exact Tz)
   refine WC.loopI (σ:=Nat × List Sw × List Ent) (fun s=>s.1≤SH.length∧s.2.1.length=SH.length∧(∀ j,s.1≤j→s.2.1[j]?=SH[j]?)∧s.2.1.map (fun x=>(x.e,x.d,x.P))=SH.map (fun x=>(x.e,x.d,x.P))∧swM s.2.2 (s.2.1.take s.1)∧(∀ x∈s.2.1.take s.1,x.c=x.P.length))
    (fun s=>[(1,Ap gW),(2,Ap gR),(95,AQ gs SH.length SH.length),(96,.int .i64 (SH.length:Int)),(97,.int .i64 (s.1:Int))])
    (fun s=>⟨gs,53,s.2.1.flatMap swC++mkz rs swZ⟩::⟨gW,144,whC ep ah cep (AQ gh HL.length HL.length) (AQ gv VL.length VL.length) (AQ go OL.length OL.length) (AQ gl T.length T.length) (.slice none 0 0) (AQ gs SH.length SH.length)⟩::⟨gR,144,whZ⟩::⟨go,70,OL.flatMap byC++mkz ro hzC⟩::⟨gv,140,VL.flatMap vtC++mkz rv vtZ⟩::⟨gh,70,HL.flatMap byC++mkz rh hzC⟩::⟨gl,51,Ti.flatMap (ddC ep)++mkz rl dzC⟩::(s.2.2++M)) (fun s=>SH.length - s.1) (0,SH,[]) (fun s hs=>?_) ⟨Nat.zero_le _,rfl,fun _ _=>rfl,rfl,swM.nil,fun _ h=>by cases h⟩ (hl:=(by repeat (first|exact Lle.nil|exact Lle.same|refine Lle.cons Pk.a (by rfl) ?_|refine Lle.skip ?_)))
   obtain⟨i,Si,M2⟩:=s;obtain⟨hi,hSl,hSe,hSm,hM2,hSc⟩:=hs
   try dsimp only at hi hSl hSe hSm hM2 hSc ⊢
   by_cases hlt:i<SH.length
   ·obtain⟨x,hx⟩ : ∃ x,SH[i]?=some x:=⟨_,List.getElem?_eq_getElem hlt⟩;have hxi:=(hSe i (Nat.le_refl _)).trans hx;have hxS:=List.mem_of_getElem? hx;have hf:=h5b x hxS;have j1:=oF x.pt x.c x.P hf.1 hf.2;have hadd:IntKind.i64.wrap ((i:Int)+1)=((i+1:Nat):Int):=zl Om Om Om;have hcx:∀ r,cut (Si.flatMap swC++r) (0+i*3) 3=swC x:=fun r=>by
     rw[Nat.zero_add];exact tS (k:=3) (fun _ _=>rfl) hxi
    have hle:∀ (r:LV),Nat.ble (i*3+2+1) (Si.flatMap swC++r).length=true:=fun r=>Nat.ble_eq_true_of_le (by rw[List.length_append,yU (k:=3) (fun _ _=>rfl),hSl];omega);have hov:∀ (g:Nat) (r:LV),over (Si.flatMap swC++r) (i*3+2) [AQ g x.P.length x.P.length]=(Si.set i ⟨x.e,x.d,some ⟨g,0,none⟩,x.P,x.P.length⟩).flatMap swC++r:=fun g r=>by
     exact dA (K:=3) (fun _=>rfl) hxi (fun r=>rfl)
    repeat (first|refine Tk ?_|intro _|exact Tz)
    refine WC.dT rfl Om ?_
    repeat (first|refine WO.does (zb (o':=0+i*3) rfl rfl hlt rfl) ?_|refine WO.does (zr (vs:=swC x) (hc:=hcx _) (hl:=rfl)) ?_|refine WO.stores (zo (vs:=swC x) (cs':=swC x) (hl:=rfl) (h1:=rfl) (hc:=zI rfl) (hle:=rfl)) ?_|refine Tj ?_|intro _|refine Tc ?_|exact Tz)
    refine WC.adraw 8 (k:=?_)
    iterate 2 refine Dx ?_
    refine DQ.does (fun s _=>zw (hc:=ra hal 6)) Dp.const ?_
    iterate 3 refine Dx ?_
    refine DQ.acallXT (hc:=j1) (hS:=⟨fun _=>x.P.length,Nat.le_refl _,by show x.P.length<9223372036854775808;omega⟩) (hR:=fun w1 hm=>(wE.p x hxS).mod hm.mod) (k:=?_);refine DQ.call (v:=fun s=>AQ (s 6 0) x.P.length x.P.length) (fun s hC=>kh (s 6 1) (some ⟨s 6 0,0,none⟩) x.P.length hC.2.1) (fun s=>rfl) (fun _ _ _ _=>trivial) (by intro s s' h;dsimp only;rw[h]<;>decide +kernel) ?_;refine DQ.anil (k:=?_);intro sx _
    try simp only[List.map_cons,List.map_nil,List.cons_append,List.nil_append]
    generalize sx 6 0=gP;generalize sx 6 1 - x.P.length=rP
    repeat (first|refine WO.does (zb (o':=0+i*3) rfl rfl hlt rfl) ?_|refine WO.stores (zo (vs:=[AQ gP x.P.length x.P.length]) (hc:=hov _ _) (hle:=hle _)) ?_|refine WO.does (zi rfl rfl hadd) ?_|refine Tj ?_|intro _|refine Tc ?_|exact Tz)
    refine WX.metI ((i+1,Si.set i ⟨x.e,x.d,some ⟨gP,0,none⟩,x.P,x.P.length⟩,⟨gP,24,x.P.flatMap zc++mkz rP (zc 0)⟩::M2):Nat × List Sw × List Ent) (hl:=(by repeat (first|exact Lle.nil|exact Lle.same|refine Lle.cons Pk.a (by rfl) ?_|refine Lle.skip ?_))) (hs:=⟨⟨?_,?_,?_,?_,?_,?_⟩,by show SH.length - (i+1)<SH.length - i;omega⟩)
    ·show i+1≤SH.length;omega
    ·show (Si.set i _).length=_;rw[List.length_set,hSl]
    ·intro j hj;show (Si.set i _)[j]?=_;rw[List.getElem?_set_ne (by have:i+1≤j:=hj;omega)];exact hSe j (by have:i+1≤j:=hj;omega)
    ·show (Si.set i _).map _=_;rw[List.map_set,hSm];exact jm (by rw[List.getElem?_map,hx];rfl)
    ·show swM _ ((Si.set i _).take (i+1));rw[rJ Om];exact swM.snoc (x:=⟨x.e,x.d,some ⟨gP,0,none⟩,x.P,x.P.length⟩) hM2 rfl
    ·show ∀ z∈(Si.set i _).take (i+1),_;rw[rJ Om];intro z hz
     rcases List.mem_append.1 hz with hz|hz
     ·exact hSc z hz
     ·rw[List.mem_singleton.1 hz]
   have hi2:i=SH.length:=by omega
   subst hi2;rw[show Si.take SH.length=Si from by rw[← hSl,List.take_length]] at hM2 hSc
   repeat (first|refine Tk ?_|intro _|exact Tz)
   refine WC.dF rfl Om ?_
   repeat (first|refine WO.does (zr (vs:=whC ep ah cep (AQ gh HL.length HL.length) (AQ gv VL.length VL.length) (AQ go OL.length OL.length) (AQ gl T.length T.length) (.slice none 0 0) (AQ gs SH.length SH.length)) (hc:=zt (vG hal)) (hl:=vG hal)) ?_|refine WO.stores (zo (vs:=whC ep ah cep (AQ gh HL.length HL.length) (AQ gv VL.length VL.length) (AQ go OL.length OL.length) (AQ gl T.length T.length) (.slice none 0 0) (AQ gs SH.length SH.length)) (cs':=whC ep ah cep (AQ gh HL.length HL.length) (AQ gv VL.length VL.length) (AQ go OL.length OL.length) (AQ gl T.length T.length) (.slice none 0 0) (AQ gs SH.length SH.length)) (hl:=vG hal) (h1:=abQ rfl rfl rfl rfl rfl rfl) (hc:=zI (by rw[vG hal];rfl)) (hle:=by rw[vG hal];rfl)) ?_|refine Tj ?_|intro _|refine Tc ?_|exact Tz)
   exact WX.ret1 rfl (yj rfl Hs.a (zt (vG hal)) (vG hal)) (⟨gh,70,HL.flatMap byC++mkz rh hzC⟩::⟨gv,140,VL.flatMap vtC++mkz rv vtZ⟩::⟨go,70,OL.flatMap byC++mkz ro hzC⟩::⟨gl,51,Ti.flatMap (ddC ep)++mkz rl dzC⟩::⟨gs,53,Si.flatMap swC++mkz rs swZ⟩::(M2++M)) (by repeat (first|exact Lle.nil|exact Lle.same|refine Lle.cons Pk.a (by rfl) ?_|refine Lle.skip ?_))
    ⟨gh,rh,gv,rv,go,ro,gl,rl,gs,rs,Ti,Si,M2++M,rfl,rfl,hTm,hSm,hSc,hM.more,hM2.left⟩
end
end Sx
end
section
open Go Go.RowKit Go.BigFrame
namespace Sx
section
variable {P:Program} {w0:World} {n:Nat} {ops:List Oper} {Q:Exit→Act→World→Prop} {K:List (Nat × Value)} {L:List Ent} {rest:List Oper}
variable {d:Nat} {op:Op} {ty:TypeId} {pos:String} {after:Array Edge} {gd:Option (Nat × Bool)}
theorem WO.callsQ {f:FuncId} [Cal P f] {xs:Array Operand} {ats:Array TypeId} {ar:LV} {A T:List Ent} {post:Value→List Ent→Prop} (hh:uX w0) (hp:L.Perm (T++A)) (hc:0 ∉ (T++A).map Ent.g→FnL P f ar (T++A) uX (fun v N=>∃ T',N=T'++A∧post v T'))
  (k:∀ v T',post v T'→WO P w0 [] n ops Q ((d,v)::K) (T'++A) rest) (ha:evs K xs.toList=some ar:=by rfl) (hd:Nat.blt d n=true:=by rfl) (hw:wk ops K gd=some true:=by rfl) :
  WO P w0 [] n ops Q K L (⟨some d,.call { callee:=.value (.func f),args:=xs,argTypes:=ats },ty,pos,after,gd⟩::rest):=by
 intro a w hdf hsz hk hme;refine wpList_step fun F hF=>?_;rw[if_pos (yI (o:=⟨some d,.call { callee:=.value (.func f),args:=xs,argTypes:=ats },ty,pos,after,gd⟩) hk hw)];have hd' : d<n:=by simpa [Nat.blt_eq] using hd
 have hme':=hme.perm hp;have h0:0 ∉ (T++A).map Ent.g:=fun h=>by
  obtain⟨e,he,h1⟩:=List.mem_map.1 h;have h2:=(hme'.mine e he).resolve_right Sm;have h3:0<w0.heap.size:=Seg.lt1 hh;omega
 have h1:=vw (P:=P) (f:=f) (ty:=ty) (pos:=pos) (after:=after) (gd:=gd) (dst:=some d) (ats:=ats) (x:=.func f) (w:=w) (fs:=[]) (cs:=[]) hk rfl ha;unfold Oper.wp;simp only[List.nil_append,List.append_nil] at h1;rw[h1,Oper.upon_enter];refine (hc h0 w hme'.ok hme'.nodup (hh.mod hme.mod Sm)).mono ?_;rintro e w' ⟨v,N,rfl,hm,T',rfl,hp⟩;have h4:Me w0 [] (T++A++[]) w:=by rw[List.append_nil];exact hme'
 have h5:=h4.callL hm;rw[List.append_nil] at h5;exact hF _ _ (k v T' hp _ _ (by rw[put_defers];exact hdf) (by rw[yn];exact hsz) (hk.put Om v) h5)
end
attribute [local irreducible] wd DQ WO WC WX WT ddH y5 hOf voH vtS gnH
structure Wh where
 ep:Nat
 ah:List Nat
 HL:List (List Nat)
 VL:List Vt
 OL:List (List Nat)
 T:List (Dd × Dk)
 S:List Sw
 gh:Nat
 rh:Nat
 gv:Nat
 rv:Nat
 go:Nat
 ro:Nat
 gl:Nat
 rl:Nat
 gs:Nat
 rs:Nat
 M:List Ent
def whV (x:Wh):List Value:=whC x.ep x.ah x.ep (AQ x.gh x.HL.length x.HL.length) (AQ x.gv x.VL.length x.VL.length) (AQ x.go x.OL.length x.OL.length) (AQ x.gl x.T.length x.T.length) (.slice none 0 0) (AQ x.gs x.S.length x.S.length)
def whE (x:Wh):List Ent:=⟨x.gh,70,x.HL.flatMap byC++mkz x.rh hzC⟩::⟨x.gv,140,x.VL.flatMap vtC++mkz x.rv vtZ⟩::⟨x.go,70,x.OL.flatMap byC++mkz x.ro hzC⟩::⟨x.gl,51,x.T.flatMap (ddC x.ep)++mkz x.rl dzC⟩::⟨x.gs,53,x.S.flatMap swC++mkz x.rs swZ⟩::x.M
structure WhI (x:Wh):Prop where
 al:x.ah.length=32
 d:ddM x.M x.T
 s:swM x.M x.S
structure WhD (x:Wh) (ep:Nat) (ah:LN) (HL:List (List Nat)) (VL:List Vt) (OL:List (List Nat)) (T:List (Dd × Dk)) (SH:List Sw):Prop where
 ep:x.ep=ep
 ah:x.ah=ah
 H:x.HL=HL
 V:x.VL=VL
 O:x.OL=OL
 T:x.T.map Prod.fst=T.map Prod.fst
 S:x.S.map (fun y=>(y.e,y.d,y.P))=SH.map (fun y=>(y.e,y.d,y.P))
abbrev chC (p q g h:Nat) (f sec:Int) (ns l:Value):List Value:=stC p q g h f sec ns++[.int .i64 1,l]
def chE (p q g h:Nat) (f sec:Int) (N:LP) (P gN cN gl cl:Nat) (X:List Wh):List Ent :=
 ⟨P,136,chC p q g h f sec (AQ gN N.length cN) (agV gl cl X.length X.length)⟩::⟨gN,105,N.flatMap z7++mkz (cN - N.length) (vK 0 0)⟩::(rwL 144 gl (X.flatMap whV) (mkz (cl - X.length) whZ) X.length++X.flatMap whE)
section
variable (p q g h:Nat) (f sec:Int) (ns l:Value) (P:Nat)
theorem tf:Fn Tryz.prog 50 [pt P] (fun w=>Seg w P 0 (chC p q g h f sec ns l)) (Is (.bool true)):=by
 refine Fn.enter Tryz.func50 rfl rfl rfl ?_;intro w hw
 repeat (first|refine WO.does (gM (e:=136) Kr rfl rfl) ?_|refine WO.does (zn (hs:=hw) (hc:=rfl)) ?_|refine WO.does (zD rfl rfl rfl) ?_|refine Tj ?_|intro _|refine Tc ?_|exact Tz)
 done
end
section
variable (p q g h:Nat) (f sec:Int) (ns:Value) (P gl cl n:Nat)
theorem adi:Fn Tryz.prog 20 [pt P] (fun w=>Seg w P 0 (chC p q g h f sec ns (agV gl cl n n))) (Is (.int .i64 (n:Int))):=by
 have hT:=tf p q g h f sec ns (agV gl cl n n) P;obtain⟨V,hV,pp,c',hVs⟩ : ∃ V,agV gl cl n n=V∧∃ pp c',V=.slice pp n c':=⟨_,rfl,by cases n<;>exact⟨_,_,rfl⟩⟩;rw[hV] at hT ⊢;clear hV;subst hVs;refine Fn.enter Tryz.func20 rfl rfl rfl ?_;intro w hw
 repeat (first|refine WO.does (zn (hs:=hw) (hc:=rfl)) ?_|refine Tj ?_|intro _|refine WO.acallR (hc:=hT) (hR:=fun wx hm=>hw.mod hm.mod Sm) (k:=?_)|refine Tc ?_|exact Tz)
 done
end
section
variable (p q g h F m:Nat) (N:LP) (P gN cN:Nat)
theorem fT (hp:p<ze) (hq:q<ze) (hg:g<ze) (hh:h<ze) (hN:zX N) (hNl:N.length≤100) (hs:y9 p q g h (F:Int) (m:Int) N=true) :
  Fn Tryz.prog 18 [pt P] (fun w=>Seg w P 0 (chC p q g h (F:Int) (m:Int) (AQ gN N.length cN) (.slice none 0 0))∧RdF z7 (AQ gN N.length cN) N w) (Is (.agg (byC (gnH p q g h F m N)).toArray)):=by
 have hT:=tf p q g h (F:Int) (m:Int) (AQ gN N.length cN) (.slice none 0 0) P;have hG:=abR p q g h F m (some ⟨gN,0,none⟩) cN N hp hq hg hh hN hNl hs;have hal:(gnH p q g h F m N).length=32:=by unfold gnH;exact zJ _ _
 generalize gnH p q g h F m N=H at *;have hbl:(byC H).length=32:=by rw[zd];exact hal
 refine Fn.enter Tryz.func18 rfl rfl rfl ?_;intro w hw;obtain⟨w1,w2⟩:=hw
 repeat (first|refine WO.does (zn (hs:=w1) (hc:=rfl)) ?_|refine WO.does (zm (vs:=stC p q g h (F:Int) (m:Int) (AQ gN N.length cN)) (hs:=w1) (hc:=rfl)) ?_|refine WO.stores (zo (vs:=byC H) (cs':=byC H) (hl:=hbl) (h1:=zV H) (hc:=zI (by rw[hbl];rfl)) (hle:=by rw[hbl];rfl)) ?_|refine Tj ?_|intro _|refine WO.acallR (hc:=hT) (hR:=fun wx hm=>w1.mod hm.mod Sm) (k:=?_)|refine WO.acallR (hc:=hG) (hR:=fun wx hm=>w2.mod hm.mod) (k:=?_)|refine Tc ?_|exact Tz)
 exact WX.aret1 (hr:=v8 (vs:=byC H) (hc:=zt hbl) (hl:=hbl)) (hp:=rfl)
end
def NcP (p q g h:Nat) (f sec:Int) (N:LP):Value→List Ent→Prop:=fun v M=>∃ P gN cN,v=.tuple #[Sx.pt P,.int .i64 0]∧M=chE p q g h f sec N P gN cN 0 0 []
section
variable (p q g h:Nat) (f sec:Int) (pt:Option Addr) (c:Nat) (N:LP)
theorem aeC (hp:p<ze) (hq:q<ze) (hg:g<ze) (hh:h<ze) (hN:zX N) (hNl:N.length≤100) (hf1 : -9223372036854775808≤f) (hf2:f≤9223372036854775807) (hs1 : -9223372036854775808≤sec) (hs2:sec≤9223372036854775807) (hs:y9 p q g h f sec N=true) :
  Fn Tryz.prog 16 [stV p q g h f sec (.slice pt N.length c)] (fun w=>RdF z7 (.slice pt N.length c) N w) (NcP p q g h f sec N):=by
 have hS:=zZ p q g h f sec pt c N hp hq hg hh hN Om hf1 hf2 hs1 hs2;rw[hs] at hS;have h1:=(zR hs).1;have hC:=ax pt c N Om Om;refine Fn.enter Tryz.func16 rfl rfl rfl ?_;intro w hw
 repeat (first|refine Tj ?_|intro _|refine WO.acallR (hc:=hS) (hR:=fun w1 hm=>(hw.mod hm.mod).rdK) (k:=?_)|refine Tc ?_|exact Tz)
 refine WO.acallX (hc:=hC) (hR:=fun w1 hm=>hw.mod hm.mod) (k:=fun yy hyy=>?_);generalize yy 0=gN;generalize yy 1=cN;simp only[List.cons_append,List.nil_append]
 repeat (first|refine Tk ?_|intro _|exact Tz)
 rename_i gS gP;exact WX.ret2 rfl (zO rfl) (zO rfl) [⟨gP,136,chC p q g h f sec (AQ gN N.length cN) (.slice none 0 0)⟩,⟨gN,105,N.flatMap z7++mkz (cN - N.length) (vK 0 0)⟩] (by repeat (first|exact Lle.nil|refine Lle.m ?_|refine Lle.c ?_)) ⟨gP,gN,cN,rfl,rfl⟩
end
end Sx
end
section
open Go Go.RowKit Go.BigFrame
namespace Sx
attribute [local irreducible] DQ WC WO WT WX y5 ddH gnH hOf voH vtS wd
theorem fill_whole {ep cep:Nat} {ah:LN} {sD sV sO l o s:Value} (h:ah.length=32) (h2:cellsOf (.agg #[l,o,s])=[l,o,s]):um (nth [(0,37),(37,3)]) whZ [(0,.agg (bkC ep ah cep sD sV sO).toArray),(1,.agg #[l,o,s])]=some (whC ep ah cep sD sV sO l o s):=by
 have hb:(bkC ep ah cep sD sV sO).length=37:=zy h;rw[yA (off:=0) (size:=37) (vs:=bkC ep ah cep sD sV sO) rfl (by simp[cellsOf]) hb rfl]
 rw[show over whZ 0 (bkC ep ah cep sD sV sO)=bkC ep ah cep sD sV sO++[.slice none 0 0,.slice none 0 0,.slice none 0 0] from by
  show over (bkZ++[.slice none 0 0,.slice none 0 0,.slice none 0 0]) 0 _=_;rw[tI (by rw[hb];rfl)]]
 rw[yA (off:=37) (size:=3) (vs:=[l,o,s]) rfl h2 rfl (by rw[List.length_append,hb];rfl)];show some (over _ (37+0) _)=_;rw[yK hb];exact congrArg some agE
theorem acE {cs:LV} (hl:cs.length=40):um (fun i=>some (i*whZ.length,whZ.length)) (mkz 1 whZ) [(0,.agg cs.toArray)]=some cs:=by
 rw[yA (off:=0) (size:=40) (vs:=cs) rfl (by simp[cellsOf]) hl rfl];show some (over (whZ++[]) 0 cs)=_;rw[tI (by rw[hl];rfl),List.append_nil]
theorem aaO {a b c d e f:Ent} {W A R:List Ent}:(a::b::c::d::e::f::(W++(A++R))).Perm (e::f::a::((W++R++A)++[b,c,d])):=by
 classical
 rw[List.perm_iff_count];intro x;simp only[List.count_cons,List.count_append,List.count_nil];omega
section
variable (p q g h:Nat) (f sec:Int) (ns:Value) (P gl cl n:Nat) (ep cep:Nat) (ah:LN) (pH pV pO pD pE pS:Option Addr) (nH nV nO nD nE nS cH cV cO cD cE cS:Nat)
theorem mD (hah:ah.length=32) (hn:n<16) (hne:ep≠n+1):Fn Tryz.prog 19 [pt P,.agg (bkC ep ah cep (.slice pH nH cH) (.slice pV nV cV) (.slice pO nO cO)).toArray,evV (.slice pD nD cD) (.slice pE nE cE) (.slice pS nS cS)]
  (fun w=>Seg w P 0 (chC p q g h f sec ns (agV gl cl n n))) (Is (.int .i64 4)):=by
 have hT:=tf p q g h f sec ns (agV gl cl n n) P;obtain⟨V,hV,pp,c',hVs⟩ : ∃ V,agV gl cl n n=V∧∃ pp c',V=.slice pp n c':=⟨_,rfl,by cases n<;>exact⟨_,_,rfl⟩⟩;rw[hV] at hT ⊢;clear hV;subst hVs;have hcv:IntKind.u64.wrap (n:Int)=(n:Int):=by show (n:Int)%18446744073709551616=_;omega
 have hadd:IntKind.u64.wrap ((n:Int)+1)=(n:Int)+1:=by show ((n:Int)+1)%18446744073709551616=_;omega
 have hbk:=zy (ep:=ep) (cep:=cep) (sD:=.slice pH nH cH) (sV:=.slice pV nV cV) (sO:=.slice pO nO cO) hah;refine Fn.enter Tryz.func19 rfl rfl rfl ?_;intro w hw
 repeat (first|refine WO.does (zn (hs:=hw) (hc:=rfl)) ?_|refine WO.does (yg rfl rfl Om) ?_|refine Tj ?_|intro _|refine WO.acallR (hc:=hT) (hR:=fun wx hm=>hw.mod hm.mod Sm) (k:=?_)|refine Tc ?_|exact Tz)
 rename_i gB gE;refine WC.adraw 10 (k:=?_)
 iterate 10 (first|refine DQ.does (fun s _=>zn (hs:=hw) (hc:=rfl)) Dp.const ?_|refine DQ.does (fun s _=>zA rfl hcv) Dp.const ?_|refine DQ.does (fun s _=>zi rfl rfl hadd) Dp.const ?_|refine DQ.does (fun s _=>yb rfl rfl Om) Dp.const ?_|refine Da ?_|refine Dc ?_)
 refine DQ.anil (k:=?_);intro sx _
 repeat (first|refine Tk ?_|intro _|exact Tz)
 done
theorem iz (HdR ChkR:World→Prop) (hd:LN) (er:Int) (hah:ah.length=32) (hdl:hd.length=32) (hn:n<16) (hep:ep=n+1) (hne:er≠0)
  (hHd:Fn Tryz.prog 18 [pt P] HdR (Is (.agg (byC hd).toArray)))
  (hCk:Fn Tryz.prog 25 [stV p q g h f sec ns,.agg (byC hd).toArray,.agg (bkC ep ah cep (.slice pH nH cH) (.slice pV nV cV) (.slice pO nO cO)).toArray,evV (.slice pD nD cD) (.slice pE nE cE) (.slice pS nS cS)] ChkR (Is (.int .i64 er)))
  (s1:∀ w w',HdR w→Mod [] w w'→HdR w') (s2:∀ w w',ChkR w→Mod [] w w'→ChkR w') :
  Fn Tryz.prog 19 [pt P,.agg (bkC ep ah cep (.slice pH nH cH) (.slice pV nV cV) (.slice pO nO cO)).toArray,evV (.slice pD nD cD) (.slice pE nE cE) (.slice pS nS cS)]
   (fun w=>Seg w P 0 (chC p q g h f sec ns (agV gl cl n n))∧HdR w∧ChkR w) (Is (.int .i64 er)):=by
 have hT:=tf p q g h f sec ns (agV gl cl n n) P;obtain⟨V,hV,pp,c',hVs⟩ : ∃ V,agV gl cl n n=V∧∃ pp c',V=.slice pp n c':=⟨_,rfl,by cases n<;>exact⟨_,_,rfl⟩⟩;rw[hV] at hT ⊢;clear hV;subst hVs;have hcv:IntKind.u64.wrap (n:Int)=(n:Int):=by show (n:Int)%18446744073709551616=_;omega
 have hadd:IntKind.u64.wrap ((n:Int)+1)=(n:Int)+1:=by show ((n:Int)+1)%18446744073709551616=_;omega
 have hbk:=zy (ep:=ep) (cep:=cep) (sD:=.slice pH nH cH) (sV:=.slice pV nV cV) (sO:=.slice pO nO cO) hah;refine Fn.enter Tryz.func19 rfl rfl rfl ?_;intro w hw;obtain⟨w1,w2,w3⟩:=hw
 repeat (first|refine WO.does (zn (hs:=w1) (hc:=rfl)) ?_|refine WO.does (yg rfl rfl Om) ?_|refine Tj ?_|intro _|refine WO.acallR (hc:=hT) (hR:=fun wx hm=>w1.mod hm.mod Sm) (k:=?_)|refine Tc ?_|exact Tz)
 rename_i gB gE;refine WC.adraw 10 (k:=?_)
 iterate 10 (first|refine DQ.does (fun s _=>zn (hs:=w1) (hc:=rfl)) Dp.const ?_|refine DQ.does (fun s _=>zA rfl hcv) Dp.const ?_|refine DQ.does (fun s _=>zi rfl rfl hadd) Dp.const ?_|refine DQ.does (fun s _=>zx rfl rfl Om) Dp.const ?_|refine Da ?_|refine Dc ?_)
 refine DQ.anil (k:=?_);intro sx _
 repeat (first|refine Tk ?_|intro _|exact Tz)
 refine WC.adraw 9 (k:=?_)
 iterate 9 (first|refine DQ.does (fun s _=>zm (vs:=stC p q g h f sec ns) (hs:=w1) (hc:=rfl)) Dp.const ?_|refine DQ.acallR (hc:=hHd) (hR:=fun wx hm=>s1 _ _ w2 hm.mod) (k:=?_)|refine DQ.does (fun s _=>zr (vs:=bkC ep ah cep (.slice pH nH cH) (.slice pV nV cV) (.slice pO nO cO)) (hc:=zt hbk) (hl:=hbk)) Dp.const ?_|refine DQ.acallR (hc:=hCk) (hR:=fun wx hm=>s2 _ _ w3 hm.mod) (k:=?_)|refine Da ?_|refine Dc ?_)
 refine DQ.anil (k:=?_);intro sx _
 repeat (first|refine WO.does (yb rfl rfl hne) ?_|refine Tj ?_|intro _|refine Tc ?_|exact Tz)
 done
end
section
variable (p q g h:Nat) (f sec:Int) (N:LP) (P gN cN gl cl:Nat) (X:List Wh) (A:List Ent) (ep:Nat) (ah:LN) (pH pV pO pD pS:Option Addr) (cH cV cO cD cS:Nat) (HL:List (List Nat)) (VL:List Vt) (OL:List (List Nat)) (T:List (Dd × Dk)) (SH:List Sw)
theorem eD (HdR ChkR:World→Prop) (hd:LN) (hah:ah.length=32) (hdl:hd.length=32) (hn:X.length<16) (hep:ep=X.length+1) (hcl:0<X.length→X.length≤cl∧cl<9223372036854775808) (hX:∀ x∈X,x.ah.length=32)
  (hHd:Fn Tryz.prog 18 [pt P] HdR (Is (.agg (byC hd).toArray)))
  (hCk:Fn Tryz.prog 25 [stV p q g h f sec (AQ gN N.length cN),.agg (byC hd).toArray,.agg (bkC ep ah ep (.slice pH HL.length cH) (.slice pV VL.length cV) (.slice pO OL.length cO)).toArray,evV (.slice pD T.length cD) (.slice none 0 0) (.slice pS SH.length cS)] ChkR (Is (.int .i64 0)))
  (h1:0<HL.length∧HL.length≤1000) (h1b:∀ X∈HL,X.length=32) (h2:0<VL.length∧VL.length≤1000) (h2b:∀ x∈VL,x.S.length=32) (h3:0<OL.length∧OL.length≤1000) (h3b:∀ X∈OL,X.length=32)
  (h4:0<T.length∧T.length≤1000) (h4b:∀ y∈T,cR y.1) (h5:0<SH.length∧SH.length≤1000) (h5b:∀ x∈SH,0<x.P.length∧x.P.length≤1000)
  (hA:∀ w,uX w→(∀ e∈chE p q g h f sec N P gN cN gl cl X++A,e.ok w)→HdR w∧ChkR w∧RdF byC (.slice pH HL.length cH) HL w∧RdF vtC (.slice pV VL.length cV) VL w∧RdF byC (.slice pO OL.length cO) OL w∧EvR ep pD cD T none 0 [] pS cS SH w)
  (h0:0 ∉ (chE p q g h f sec N P gN cN gl cl X++A).map Ent.g) :
  FnL Tryz.prog 19 [pt P,.agg (bkC ep ah ep (.slice pH HL.length cH) (.slice pV VL.length cV) (.slice pO OL.length cO)).toArray,evV (.slice pD T.length cD) (.slice none 0 0) (.slice pS SH.length cS)] (chE p q g h f sec N P gN cN gl cl X++A) uX
   (fun v L=>∃ T',L=T'++A∧v=.int .i64 0∧∃ gl' cl' y,T'=chE p q g h f sec N P gN cN gl' cl' (X++[y])∧WhI y∧WhD y ep ah HL VL OL T SH∧X.length+1≤cl'∧cl' < 9223372036854775808):=by
 have hT:=tf p q g h f sec (AQ gN N.length cN) (agV gl cl X.length X.length) P;have hW:=acH ep ah ep pH pV pO pD pS cH cV cO cD cS HL VL OL T SH hah h1 h1b h2 h2b h3 h3b h4 h4b h5 h5b;obtain⟨n,hXn⟩ : ∃ n,X.length=n:=⟨_,rfl⟩;rw[hXn] at hn hep hcl hT ⊢;have hcv:IntKind.u64.wrap (n:Int)=(n:Int):=by show (n:Int)%18446744073709551616=_;omega
 have hadd:IntKind.u64.wrap ((n:Int)+1)=(n:Int)+1:=by show ((n:Int)+1)%18446744073709551616=_;omega
 have hbk:=zy (ep:=ep) (cep:=ep) (sD:=.slice pH HL.length cH) (sV:=.slice pV VL.length cV) (sO:=.slice pO OL.length cO) hah;refine FnL.enter Tryz.func19 rfl rfl rfl ?_;intro w hw;have hrd:=fun wx (hm:Mod ((chE p q g h f sec N P gN cN gl cl X++A).map Ent.g) w wx) (ho:∀ e∈chE p q g h f sec N P gN cN gl cl X++A,e.ok wx)=>hA wx (hw.mod hm h0) ho;clear hA;obtain⟨V,hV,hVn⟩ : ∃ V,agV gl cl n n=V∧∃ pp c',V=.slice pp n c':=⟨_,rfl,by cases n<;>exact⟨_,_,rfl⟩⟩;have hmem:∀ e∈chE p q g h f sec N P gN cN gl cl X++A,e∈⟨P,136,chC p q g h f sec (AQ gN N.length cN) V⟩::⟨gN,105,N.flatMap z7++mkz (cN - N.length) (vK 0 0)⟩::(rwL 144 gl (X.flatMap whV) (mkz (cl - n) whZ) n++(X.flatMap whE++A)):=fun e he=>by
  unfold chE at he;rw[hXn,hV] at he;simpa only[List.cons_append,List.append_assoc] using he
 refine WC.permL (L':=⟨P,136,chC p q g h f sec (AQ gN N.length cN) V⟩::⟨gN,105,N.flatMap z7++mkz (cN - N.length) (vK 0 0)⟩::(rwL 144 gl (X.flatMap whV) (mkz (cl - n) whZ) n++(X.flatMap whE++A))) (by
  unfold chE;rw[hXn,hV];simp only[List.cons_append,List.append_assoc];exact .refl _) ?_
 generalize hG:(chE p q g h f sec N P gN cN gl cl X++A).map Ent.g=GS at *;obtain⟨pp,c',rfl⟩:=hVn;obtain⟨R,hR⟩ : ∃ R,⟨gN,105,N.flatMap z7++mkz (cN - N.length) (vK 0 0)⟩::(rwL 144 gl (X.flatMap whV) (mkz (cl - n) whZ) n++(X.flatMap whE++A))=R:=⟨_,rfl⟩;rw[hR] at hmem ⊢;rw[hV] at hT
 repeat (first|refine WO.does (yg rfl rfl Om) ?_|refine Tj ?_|intro _|refine WO.acallR (hc:=hT) (hR:=fun wx hm=>Hs.sg hm) (k:=?_)|refine Tc ?_|exact Tz)
 rename_i gB gE;refine WC.adraw 10 (k:=?_)
 iterate 10 (first|refine DQ.does (fun s _=>zA rfl hcv) Dp.const ?_|refine DQ.does (fun s _=>zi rfl rfl hadd) Dp.const ?_|refine DQ.does (fun s _=>zx rfl rfl Om) Dp.const ?_|refine Da ?_|refine Dc ?_)
 refine DQ.anil (k:=?_);intro sx _
 repeat (first|refine Tk ?_|intro _|exact Tz)
 refine WC.adraw 9 (k:=?_)
 iterate 9 (first|refine DQ.does (fun s _=>zr (vs:=stC p q g h f sec (AQ gN N.length cN)) (hc:=rfl)) Dp.const ?_|refine DQ.acallR (hc:=hHd) (hR:=fun wx hm=>(hrd wx hm.mod fun e he=>hm.ok e (by have:=hmem e he;repeat (first|exact this|apply List.mem_cons_of_mem))).1) (k:=?_)|refine DQ.does (fun s _=>zr (vs:=bkC ep ah ep (.slice pH HL.length cH) (.slice pV VL.length cV) (.slice pO OL.length cO)) (hc:=zt hbk) (hl:=hbk)) Dp.const ?_|refine DQ.acallR (hc:=hCk) (hR:=fun wx hm=>(hrd wx hm.mod fun e he=>hm.ok e (by have:=hmem e he;repeat (first|exact this|apply List.mem_cons_of_mem))).2.1) (k:=?_)|refine Da ?_|refine Dc ?_)
 refine DQ.anil (k:=?_);intro sx _
 repeat (first|refine WO.does (zx rfl rfl rfl) ?_|refine Tj ?_|intro _|refine Tc ?_|exact Tz)
 refine WC.mainV [8,9,10,13] [(0,pt P),(1,pt P),(2,pt P),(3,.pointer (some ⟨P,20,none⟩)),(4,.slice pp n c'),(5,.agg (bkC ep ah ep (.slice pH HL.length cH) (.slice pV VL.length cV) (.slice pO OL.length cO)).toArray),(6,evV (.slice pD T.length cD) (.slice none 0 0) (.slice pS SH.length cS)),(7,.agg (whC ep ah ep (.slice pH HL.length cH) (.slice pV VL.length cV) (.slice pO OL.length cO) (.slice pD T.length cD) (.slice none 0 0) (.slice pS SH.length cS)).toArray),(11,pt P),(12,.pointer (some ⟨P,20,none⟩))] Dt ?_
 refine WT.with [⟨gE,59,[.slice pD T.length cD,.slice none 0 0,.slice pS SH.length cS]⟩,⟨gB,75,bkC ep ah ep (.slice pH HL.length cH) (.slice pV VL.length cV) (.slice pO OL.length cO)⟩,⟨P,136,chC p q g h f sec (AQ gN N.length cN) (.slice pp n c')⟩] Kr
  (Tlv.auto (Tlv.auto (Tlv.auto (Tlv.auto (Tlv.auto (Tlv.d rfl (zr (vs:=bkC ep ah ep (.slice pH HL.length cH) (.slice pV VL.length cV) (.slice pO OL.length cO)) (hc:=zt hbk) (hl:=hbk)) (Tlv.auto (Tlv.d rfl (uI rfl (fill_whole hah rfl)) (Tlv.auto (Tlv.auto Tlv.nil))))))))))
  (fun hc hT=>?_)
 refine WT.one (m:=8) rfl hc hT ?_;refine WO.callsL (hc:=Fn.toL hW) (hp:=.nil) (hR:=fun wx hm=>(hrd wx hm.mod fun e he=>hm.ok e (by have:=hmem e he;repeat (first|exact this|apply List.mem_cons_of_mem))).2.2) (k:=fun v1 N1 hv=>?_);obtain⟨gh,rh,gv,rv,go,ro,gD,rl,gs,rs,T',S',M,rfl,rfl,hT',hS',hSc,hM,hM2⟩:=hv;have hTl:T'.length=T.length:=by have:=congrArg List.length hT';simpa using this
 have hSl:S'.length=SH.length:=by have:=congrArg List.length hS';simpa using this
 obtain⟨y,hy⟩ : ∃ y:Wh,y=⟨ep,ah,HL,VL,OL,T',S',gh,rh,gv,rv,go,ro,gD,rl,gs,rs,M⟩:=⟨_,rfl⟩;have hyV:whC ep ah ep (AQ gh HL.length HL.length) (AQ gv VL.length VL.length) (AQ go OL.length OL.length) (AQ gD T.length T.length) (.slice none 0 0) (AQ gs SH.length SH.length)=whV y:=by
  rw[hy];unfold whV;rw[hTl,hSl]
 have hyE:(⟨gh,70,HL.flatMap byC++mkz rh hzC⟩::⟨gv,140,VL.flatMap vtC++mkz rv vtZ⟩::⟨go,70,OL.flatMap byC++mkz ro hzC⟩::⟨gD,51,T'.flatMap (ddC ep)++mkz rl dzC⟩::⟨gs,53,S'.flatMap swC++mkz rs swZ⟩::M:List Ent)=whE y:=by rw[hy];rfl
 have hyI:WhI y:=by rw[hy];exact⟨hah,hM,hM2⟩
 have hyD:WhD y ep ah HL VL OL T SH:=by rw[hy];exact⟨rfl,rfl,rfl,rfl,rfl,hT',hS'⟩
 have hyl:(whV y).length=40:=by rw[← hyV];exact vG hah
 have hy1:(whV y).all Value.oneCell'=true:=by rw[← hyV];exact abQ rfl rfl rfl rfl rfl rfl
 have hXl:(X.flatMap whV).length=n*40:=by rw[← hXn];exact yU fun x hx=>vG (hX x hx)
 rw[hyV,hyE];clear hyV hyE hy;subst hR;refine WO.swap ?_;simp only[List.cons_append,List.append_assoc];refine WO.nil (WX.wt [(50,.agg (whV y).toArray)] ?_);refine WT.one (m:=9) rfl hc hT ?_;refine WO.makes (zh (cs:=whV y) rfl Dt (acE hyl)) ?_;intro gS;refine WO.nil (WX.wt [(51,AQ gS 1 1)] ?_);refine WT.one (m:=10) rfl hc hT ?_;refine WO.appR (z:=whZ) (B:=X.flatMap whV) (ys:=whV y) (m:=1) (n:=n) (l:=n+1) (g:=gl) (c:=cl) (L1:=[_,_,_,_,_]) rfl (by rw[hV];rfl) rfl rfl hXl hcl (Rds.own (m:=40) Hs.a (zt hyl)) hyl hy1 Dt rfl Om Om Dt Dt (fun g1 c1 a2 a3=>?_);refine WO.nil (WX.wt [(52,AQ g1 (n+1) c1)] ?_);simp only[List.cons_append,List.nil_append];refine WT.one (m:=13) rfl hc hT ?_;refine WO.stores (zo (vs:=[AQ g1 (n+1) c1]) (cs':=chC p q g h f sec (AQ gN N.length cN) (AQ g1 (n+1) c1))) ?_;refine WO.nil (WX.wt [] ?_);refine WT.fin [13] 5 hc rfl Kr ?_;clear hc hT;refine WX.seq ?_;refine WC.permL (L':=(chE p q g h f sec N P gN cN g1 c1 (X++[y])++A)++[⟨gS,144,whV y⟩,⟨gE,59,[.slice pD T.length cD,.slice none 0 0,.slice pS SH.length cS]⟩,⟨gB,75,bkC ep ah ep (.slice pH HL.length cH) (.slice pV VL.length cV) (.slice pO OL.length cO)⟩]) (by
  have hn1:(X++[y]).length=n+1:=by rw[List.length_append,hXn];rfl
  unfold chE;rw[hn1];simp only[List.flatMap_append,List.flatMap_cons,List.flatMap_nil,List.append_nil];exact aaO) ?_
 repeat (first|refine Tk ?_|intro _|exact Tz)
 exact WX.retP_of (N:=chE p q g h f sec N P gN cN g1 c1 (X++[y])++A) (abd rfl (zO rfl)) Lle.left ⟨_,rfl,rfl,g1,c1,y,rfl,hyI,hyD,a3,a2⟩
end
end Sx
end
section
open Go Go.RowKit Go.BigFrame
namespace Sx
theorem u8_xor {a b:Nat} (ha:a<256) (hb:b<256):IntKind.u8.wrap (((BitVec.ofInt IntKind.u8.bits ((a:Nat):Int) ^^^ BitVec.ofInt IntKind.u8.bits ((b:Nat):Int)).toNat:Nat):Int)=((a ^^^ b:Nat):Int):=by
 have e:∀ x:Nat,x<256→(BitVec.ofInt IntKind.u8.bits ((x:Nat):Int)).toNat=x:=fun x hx=>by
  rw[BitVec.ofInt_natCast,BitVec.toNat_ofNat];exact Nat.mod_eq_of_lt hx
 have h:=Nat.xor_lt_two_pow (n:=8) ha hb;rw[BitVec.toNat_xor,e a ha,e b hb];show ((a ^^^ b:Nat):Int)%256=_;omega
def twH (A:LN) (j b:Nat):List Nat:=A.set j (A.getD j 0 ^^^ b)
theorem bo {A:LN} {j b:Nat}:(twH A j b).length=A.length:=by unfold twH;rw[List.length_set]
theorem acr {A:LN} {j b:Nat} (hA:∀ x∈A,x<256) (hb:b<256):∀ x∈twH A j b,x<256:=fun x hx=>by
 unfold twH at hx
 rcases List.mem_or_eq_of_mem_set hx with h|h
 ·exact hA x h
 ·rw[h];refine Nat.xor_lt_two_pow (n:=8) ?_ hb;rw[List.getD_eq_getElem?_getD];cases h1:A[j]? with
  | none=>decide
  | some y=>exact hA y (List.mem_of_getElem? h1)
theorem acd {A:LN} {j b:Nat} (hj:j<A.length) (hb:b≠0):twH A j b≠A:=fun e=>by
 have h1:(twH A j b)[j]?=A[j]?:=by rw[e]
 unfold twH at h1;rw[List.getElem?_set_self hj,List.getElem?_eq_getElem hj,List.getD_eq_getElem?_getD,List.getElem?_eq_getElem hj] at h1;have h2:A[j] ^^^ b=A[j]:=Option.some.inj h1;apply hb;have h3:A[j] ^^^ (A[j] ^^^ b)=A[j] ^^^ A[j]:=by rw[h2]
 rwa [← Nat.xor_assoc,Nat.xor_self,Nat.zero_xor] at h3
theorem ik {A:LN} {j:Nat} (hj:j<A.length) (r:LV):(byC A++r)[j]?=some (.int .u8 ((A.getD j 0:Nat):Int)):=by
 rw[List.getElem?_append_left (by rw[zd];exact hj)];unfold byC;rw[List.getElem?_map,List.getElem?_eq_getElem hj,List.getD_eq_getElem?_getD,List.getElem?_eq_getElem hj];rfl
theorem iq {A:LN} {j x:Nat} (hj:j<A.length) (r:LV):over (byC A++r) j [.int .u8 (x:Int)]=byC (A.set j x)++r:=by
 have hl:(byC (A.take j)).length=j:=by rw[zd,List.length_take];omega
 have e:byC A++r=byC (A.take j)++Value.int .u8 ((A[j]:Nat):Int)::(byC (A.drop (j+1))++r):=by
  have e1:A=A.take j++A[j]::A.drop (j+1):=by simp
  have e2:byC A=byC (A.take j)++Value.int .u8 ((A[j]:Nat):Int)::byC (A.drop (j+1)):=by
   conv=>lhs;rw[e1]
   rw[zW];rfl
  rw[e2];simp
 rw[e,List.set_eq_take_append_cons_drop,if_pos hj,zW];have h:=j0 (A:=byC (A.take j)) (B:=byC (A.drop (j+1))++r) (x:=Value.int .u8 ((A[j]:Nat):Int)) (y:=.int .u8 (x:Int));rw[hl] at h;rw[h];simp[byC]
section
variable {ep cep:Nat} {ah:LN} {sD sV sO:Value} {j b:Nat}
theorem acK (h:ah.length=32) (hj:j<32):(bkC ep ah cep sD sV sO)[1+j]?=some (.int .u8 ((ah.getD j 0:Nat):Int)):=by
 unfold bkC;rw[show 1+j=j+1 from by omega,List.getElem?_cons_succ];exact ik Om _
theorem aaA (h:ah.length=32) (hj:j<32):over (bkC ep ah cep sD sV sO) (1+j) [.int .u8 ((ah.getD j 0 ^^^ b:Nat):Int)]=bkC ep (twH ah j b) cep sD sV sO:=by
 show over ([.int .u64 (ep:Int)]++(byC ah++[.int .u64 (cep:Int),sD,sV,sO])) (1+j) _=_;rw[yK (n:=1) rfl,iq Om];rfl
theorem agR {e:Nat}:over (bkC ep ah cep sD sV sO) 0 [.int .u64 (e:Int)]=bkC e ah cep sD sV sO:=rfl
theorem acL {x:Value} (h:ah.length=32):over (bkC ep ah cep sD sV sO) 34 [x]=bkC ep ah cep x sV sO:=bB h 1 [x]
end
def twL (OL:List (List Nat)) (i j b:Nat):List (List Nat):=OL.set i (twH (OL.getD i []) j b)
section
variable {OL:List (List Nat)} {i j b:Nat}
theorem bI:(twL OL i j b).length=OL.length:=by unfold twL;rw[List.length_set]
theorem tJ (hi:i<OL.length):OL.getD i []∈OL:=by
 rw[List.getD_eq_getElem?_getD,List.getElem?_eq_getElem hi];exact List.getElem_mem hi
theorem ae7 (hO:∀ X∈OL,X.length=32∧∀ b∈X,b<256) (hi:i<OL.length) (hb:b<256):∀ X∈twL OL i j b,X.length=32∧∀ b∈X,b<256:=fun X hX=>by
 unfold twL at hX
 rcases List.mem_or_eq_of_mem_set hX with h|h
 ·exact hO X h
 ·rw[h];have:=hO _ (tJ hi);exact⟨by rw[bo];exact this.1,acr this.2 hb⟩
theorem afT (hO:∀ X∈OL,X.length=32∧∀ b∈X,b<256) (hi:i<OL.length) (hj:j<32) (hb:b≠0):OL≠twL OL i j b:=fun e=>by
 have h1:(twL OL i j b)[i]?=OL[i]?:=by rw[← e]
 unfold twL at h1;rw[List.getElem?_set_self hi,List.getElem?_eq_getElem hi,List.getD_eq_getElem?_getD,List.getElem?_eq_getElem hi,Option.getD_some] at h1;exact acd (by rw[(hO _ (List.getElem_mem hi)).1];exact hj) hb (Option.some.inj h1)
theorem pc (hO:∀ X∈OL,X.length=32∧∀ b∈X,b<256) (hi:i<OL.length) (r:LV):∃ A B,A.length=i*32∧OL.flatMap byC++r=A++(byC (OL.getD i [])++B)∧∀ Y,(OL.set i Y).flatMap byC++r=A++(byC Y++B):=by
 have e:OL=OL.take i++OL.getD i []::OL.drop (i+1):=by
  rw[List.getD_eq_getElem?_getD,List.getElem?_eq_getElem hi];simp
 have hl:((OL.take i).flatMap byC).length=i*32:=by
  rw[yU (k:=32) (fun X hX=>by rw[zd];exact (hO X (List.mem_of_mem_take hX)).1),List.length_take];congr 1;omega
 refine⟨(OL.take i).flatMap byC,(OL.drop (i+1)).flatMap byC++r,hl,?_,fun Y=>?_⟩
 ·conv=>lhs;rw[e]
  simp only[List.flatMap_append,List.flatMap_cons,List.append_assoc]
 ·rw[List.set_eq_take_append_cons_drop,if_pos hi];simp only[List.flatMap_append,List.flatMap_cons,List.append_assoc]
theorem bn (hO:∀ X∈OL,X.length=32∧∀ b∈X,b<256) (hi:i<OL.length) (hj:j<32) (r:LV):(OL.flatMap byC++r)[i*32+j]?=some (.int .u8 (((OL.getD i []).getD j 0:Nat):Int)):=by
 obtain⟨A,B,hl,h1,_⟩:=pc hO hi r;rw[h1,List.getElem?_append_right Om,hl,Nat.add_sub_cancel_left];exact ik (by rw[(hO _ (tJ hi)).1];exact hj) _
theorem fb (hO:∀ X∈OL,X.length=32∧∀ b∈X,b<256) (hi:i<OL.length) (hj:j<32) (r:LV):over (OL.flatMap byC++r) (i*32+j) [.int .u8 (((OL.getD i []).getD j 0 ^^^ b:Nat):Int)]=(twL OL i j b).flatMap byC++r:=by
 obtain⟨A,B,hl,h1,h2⟩:=pc hO hi r;unfold twL;rw[h1,h2,yK hl,iq (by rw[(hO _ (tJ hi)).1];exact hj)];rfl
end
end Sx
end
end Go.Proofs.YtiaibpcaloigkaaGreatDoor
