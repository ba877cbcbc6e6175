/- Part 48 of the proof. -/
import Derived.Test.YtiaibpcaloigkaaGreatDoorF47
set_option linter.unusedSimpArgs false
set_option linter.unusedVariables false
set_option maxHeartbeats 8000000
namespace Go.Proofs.YtiaibpcaloigkaaGreatDoor
section
open Go Go.RowKit Go.BigFrame
namespace Sx
attribute [local irreducible] DQ WC WO WX wd
def whC (ep:Nat) (ah:LN) (cep:Nat) (sD sV sO l o s:Value):List Value:=.int .u64 (ep:Int)::(byC ah++[.int .u64 (cep:Int),sD,sV,sO,l,o,s])
section
variable {ep cep:Nat} {ah:LN} {sD sV sO l o s:Value}
theorem vw (h:ah.length=32):(whC ep ah cep sD sV sO l o s).length=40:=by unfold whC;rw[List.length_cons,List.length_append,zd,h];rfl
theorem sF (h:ah.length=32) (j:Nat):(whC ep ah cep sD sV sO l o s)[33+j]?=[.int .u64 (cep:Int),sD,sV,sO,l,o,s][j]?:=by
 have hb:(byC ah).length=32:=by rw[zd,h]
 unfold whC;rw[show 33+j=(32+j)+1 from by omega,List.getElem?_cons_succ,List.getElem?_append_right Om,hb,Nat.add_sub_cancel_left]
theorem sE (h:ah.length=32) (j:Nat) (v:Value):over (whC ep ah cep sD sV sO l o s) (33+j) [v]=.int .u64 (ep:Int)::(byC ah++over [.int .u64 (cep:Int),sD,sV,sO,l,o,s] j [v]):=by
 have hb:(byC ah).length+1=33:=by rw[zd,h]
 unfold whC;rw[← List.cons_append,y6 (A:=.int .u64 (ep:Int)::byC ah) (n:=33) (by rw[List.length_cons];exact hb)];rfl
theorem adi {x:Value} (h:ah.length=32):over (whC ep ah cep sD sV sO l o s) 34 [x]=whC ep ah cep x sV sO l o s:=sE h 1 x
theorem ad9 {x:Value} (h:ah.length=32):over (whC ep ah cep sD sV sO l o s) 35 [x]=whC ep ah cep sD x sO l o s:=sE h 2 x
theorem aeG {x:Value} (h:ah.length=32):over (whC ep ah cep sD sV sO l o s) 36 [x]=whC ep ah cep sD sV x l o s:=sE h 3 x
theorem aey {x:Value} (h:ah.length=32):over (whC ep ah cep sD sV sO l o s) 37 [x]=whC ep ah cep sD sV sO x o s:=sE h 4 x
theorem adK {x:Value} (h:ah.length=32):over (whC ep ah cep sD sV sO l o s) 38 [x]=whC ep ah cep sD sV sO l x s:=sE h 5 x
theorem acV {x:Value} (h:ah.length=32):over (whC ep ah cep sD sV sO l o s) 39 [x]=whC ep ah cep sD sV sO l o x:=sE h 6 x
theorem ab0 (h1:sD.oneCell'=true) (h2:sV.oneCell'=true) (h3:sO.oneCell'=true) (h4:l.oneCell'=true) (h5:o.oneCell'=true) (h6:s.oneCell'=true):(whC ep ah cep sD sV sO l o s).all Value.oneCell'=true:=by
 unfold whC;rw[List.all_cons,List.all_append,zM];simp[h1,h2,h3,h4,h5,h6];exact⟨rfl,rfl⟩
theorem afZ:bkC ep ah cep sD sV sO++[l,o,s]=whC ep ah cep sD sV sO l o s:=by unfold bkC whC;simp
end
abbrev whZ:List Value:=.int .u64 0::(List.replicate 32 (.int .u8 0)++[.int .u64 0,.slice none 0 0,.slice none 0 0,.slice none 0 0,.slice none 0 0,.slice none 0 0,.slice none 0 0])
def ddM (M:List Ent) (T:List (Dd × Dk)):Prop:=∀ w:World,(∀ e∈M,e.ok w)→∀ y∈T,cU w y.1 y.2
def swM (M:List Ent) (S:List Sw):Prop:=∀ w:World,(∀ e∈M,e.ok w)→∀ x∈S,RdF zc (.slice x.pt x.P.length x.c) x.P w
def TwP (ep:Nat) (ah:LN) (cep:Nat) (HL:List (List Nat)) (VL:List Vt) (OL:List (List Nat)) (T:List (Dd × Dk)) (SH:List Sw):Value→List Ent→Prop:=fun v L =>
 ∃ gh rh gv rv go ro gl rl gs rs T' S' M,v=.agg (whC ep ah cep (AQ gh HL.length HL.length) (AQ gv VL.length VL.length) (AQ go OL.length OL.length) (AQ gl T.length T.length) (.slice none 0 0) (AQ gs SH.length SH.length)).toArray ∧
  L=⟨gh,70,HL.flatMap byC++mkz rh hzC⟩::⟨gv,140,VL.flatMap vtC++mkz rv vtZ⟩::⟨go,70,OL.flatMap byC++mkz ro hzC⟩::⟨gl,51,T'.flatMap (ddC ep)++mkz rl dzC⟩::⟨gs,53,S'.flatMap swC++mkz rs swZ⟩::M ∧
  T'.map Prod.fst=T.map Prod.fst∧S'.map (fun x=>(x.e,x.d,x.P))=SH.map (fun x=>(x.e,x.d,x.P))∧(∀ x∈S',x.c=x.P.length)∧ddM M T'∧swM M S'
theorem jN {α:Type} {l:List α} {i:Nat} {x:α} (h:l[i]?=some x):l.set i x=l:=by
 refine List.ext_getElem? fun j=>?_;rw[List.getElem?_set];split
 ·next e=>subst e;rw[h];simp[(List.getElem?_eq_some_iff.1 h).1]
 ·rfl
theorem rG {α:Type} {l:List α} {i:Nat} {x:α} (h:i<l.length):(l.set i x).take (i+1)=l.take i++[x]:=by
 rw[List.take_add_one,List.getElem?_set_self h,List.take_set_of_le (Nat.le_refl _)];rfl
theorem ddM.nil {M:List Ent}:ddM M []:=fun _ _ _ h=>by cases h
theorem swM.nil {M:List Ent}:swM M []:=fun _ _ _ h=>by cases h
theorem ddM.snoc {M:List Ent} {T:List (Dd × Dk)} {y:Dd × Dk} (h:ddM M T):ddM (ddL y.1 y.2++M) (T++[y]):=fun w he x hx=>by
 rcases List.mem_append.1 hx with hx|hx
 ·exact h w (fun e h1=>he e (List.mem_append_right _ h1)) x hx
 ·rw[List.mem_singleton.1 hx];exact cU.of fun e h1=>he e (List.mem_append_left _ h1)
theorem ddM.more {M R:List Ent} {T:List (Dd × Dk)} (h:ddM M T):ddM (R++M) T:=fun w he x hx=>h w (fun e h1=>he e (List.mem_append_right _ h1)) x hx
theorem swM.left {M R:List Ent} {S:List Sw} (h:swM M S):swM (M++R) S:=fun w he x hx=>h w (fun e h1=>he e (List.mem_append_left _ h1)) x hx
theorem swM.snoc {M:List Ent} {S:List Sw} {x:Sw} {g r:Nat} (h:swM M S) (hp:x.pt=some ⟨g,0,none⟩):swM (⟨g,24,x.P.flatMap zc++mkz r (zc 0)⟩::M) (S++[x]):=fun w he z hz=>by
 rcases List.mem_append.1 hz with hz|hz
 ·exact h w (fun e h1=>he e (List.mem_cons_of_mem _ h1)) z hz
 ·rw[List.mem_singleton.1 hz,hp];have:=Ent.ok.seg (he _ (List.mem_cons_self ..)) 0;rw[List.drop_zero] at this;exact RdF.ownO this rfl
section
variable (ep:Nat) (ah:LN) (cep:Nat) (pH pV pO pD pS:Option Addr) (cH cV cO cD cS:Nat) (HL:List (List Nat)) (VL:List Vt) (OL:List (List Nat)) (T:List (Dd × Dk)) (SH:List Sw)
theorem aeS (hal:ah.length=32) (h1:0<HL.length∧HL.length≤1000) (h1b:∀ X∈HL,X.length=32) (h2:0<VL.length∧VL.length≤1000) (h2b:∀ x∈VL,x.S.length=32) (h3:0<OL.length∧OL.length≤1000) (h3b:∀ X∈OL,X.length=32)
  (h4:0<T.length∧T.length≤1000) (h4b:∀ y∈T,dy y.1) (h5:0<SH.length∧SH.length≤1000) (h5b:∀ x∈SH,0<x.P.length∧x.P.length≤1000) :
  Fn Tryz.prog 51 [.agg (whC ep ah cep (.slice pH HL.length cH) (.slice pV VL.length cV) (.slice pO OL.length cO) (.slice pD T.length cD) (.slice none 0 0) (.slice pS SH.length cS)).toArray]
   (fun w=>RdF byC (.slice pH HL.length cH) HL w∧RdF vtC (.slice pV VL.length cV) VL w∧RdF byC (.slice pO OL.length cO) OL w∧EvR ep pD cD T none 0 [] pS cS SH w) (TwP ep ah cep HL VL OL T SH):=by
 have k1:=ib pH cH HL h1b h1.1 h1.2;have k2:=aaJ pV cV VL h2b h2.1 h2.2;have k3:=ib pO cO OL h3b h3.1 h3.2;have k4:=aaR pD cD ep T h4.1 h4.2;have k5:=aam pS cS SH h5.1 h5.2;have hwh:=vw (ep:=ep) (cep:=cep) (sD:=.slice pH HL.length cH) (sV:=.slice pV VL.length cV) (sO:=.slice pO OL.length cO) (l:=.slice pD T.length cD) (o:=.slice none 0 0) (s:=.slice pS SH.length cS) hal;refine Fn.enter Tryz.func51 rfl rfl rfl ?_;intro w hw;obtain⟨wH,wV,wO,wE⟩:=hw
 repeat (first|refine Tk ?_|intro _|exact Tz)
 rename_i gW gR;refine WC.adraw 20 (k:=?_)
 iterate 3 refine Dx ?_
 refine DQ.does (fun s _=>zz (hc:=sF hal 1)) Dp.const ?_;refine DQ.acallXT (hc:=k1) (hS:=⟨fun _=>HL.length,Nat.le_refl _,by show HL.length<9223372036854775808;omega⟩) (hR:=fun w1 hm=>wH.mod hm.mod) (k:=?_);refine DQ.call (v:=fun s=>AQ (s 4 0) HL.length HL.length) (fun s hC=>lE (s 4 1) (some ⟨s 4 0,0,none⟩) HL.length hC.2.1) (fun s=>rfl) (fun _ _ _ _=>trivial) (by intro s s' h;dsimp only;rw[h]<;>decide +kernel) ?_
 iterate 3 refine Dx ?_
 refine DQ.does (fun s _=>zz (hc:=sF hal 2)) Dp.const ?_;refine DQ.acallXT (hc:=k2) (hS:=⟨fun _=>VL.length,Nat.le_refl _,by show VL.length<9223372036854775808;omega⟩) (hR:=fun w1 hm=>wV.mod hm.mod) (k:=?_);refine DQ.call (v:=fun s=>AQ (s 10 0) VL.length VL.length) (fun s hC=>aea (s 10 1) (some ⟨s 10 0,0,none⟩) VL.length hC.2.1) (fun s=>rfl) (fun _ _ _ _=>trivial) (by intro s s' h;dsimp only;rw[h]<;>decide +kernel) ?_
 iterate 2 refine Dx ?_
 refine DQ.does (fun s _=>zz (hc:=sF hal 3)) Dp.const ?_;refine DQ.acallXT (hc:=k3) (hS:=⟨fun _=>OL.length,Nat.le_refl _,by show OL.length<9223372036854775808;omega⟩) (hR:=fun w1 hm=>wO.mod hm.mod) (k:=?_);refine DQ.call (v:=fun s=>AQ (s 15 0) OL.length OL.length) (fun s hC=>lE (s 15 1) (some ⟨s 15 0,0,none⟩) OL.length hC.2.1) (fun s=>rfl) (fun _ _ _ _=>trivial) (by intro s s' h;dsimp only;rw[h]<;>decide +kernel) ?_
 iterate 3 refine Dx ?_
 refine DQ.anil (k:=?_);intro sx _
 try simp only[List.map_cons,List.map_nil,List.cons_append,List.nil_append]
 generalize sx 4 0=gh;generalize sx 4 1 - HL.length=rh;generalize sx 10 0=gv;generalize sx 10 1 - VL.length=rv;generalize sx 15 0=go;generalize sx 15 1 - OL.length=ro
 repeat (first|refine WO.stores (zo (vs:=[AQ gh HL.length HL.length]) (hc:=adi hal) (hle:=by rw[vw hal];rfl)) ?_|refine WO.stores (zo (vs:=[AQ gv VL.length VL.length]) (hc:=ad9 hal) (hle:=by rw[vw hal];rfl)) ?_|refine WO.stores (zo (vs:=[AQ go OL.length OL.length]) (hc:=aeG hal) (hle:=by rw[vw hal];rfl)) ?_|refine Tj ?_|intro _|refine Tc ?_|exact Tz)
 refine WC.adraw 17 (k:=?_)
 iterate 2 refine Dx ?_
 refine DQ.does (fun s _=>zz (hc:=sF hal 4)) Dp.const ?_;refine DQ.acallXT (hc:=k4) (hS:=⟨fun _=>T.length,Nat.le_refl _,by show T.length<9223372036854775808;omega⟩) (hR:=fun w1 hm=>wE.d.mod hm.mod) (k:=?_);refine DQ.call (v:=fun s=>AQ (s 3 0) T.length T.length) (fun s hC=>aeA (s 3 1) (some ⟨s 3 0,0,none⟩) T.length hC.2.1) (fun s=>rfl) (fun _ _ _ _=>trivial) (by intro s s' h;dsimp only;rw[h]<;>decide +kernel) ?_
 iterate 2 refine Dx ?_
 refine DQ.does (fun s _=>zz (hc:=sF hal 5)) Dp.const ?_;refine DQ.acall (hc:=aaI) (k:=?_);refine DQ.acall (hc:=adB 0 none 0 (Nat.le_refl _)) (k:=?_)
 iterate 2 refine Dx ?_
 refine DQ.does (fun s _=>zz (hc:=sF hal 6)) Dp.const ?_;refine DQ.acallXT (hc:=k5) (hS:=⟨fun _=>SH.length,Nat.le_refl _,by show SH.length<9223372036854775808;omega⟩) (hR:=fun w1 hm=>wE.s.mod hm.mod) (k:=?_);refine DQ.call (v:=fun s=>AQ (s 13 0) SH.length SH.length) (fun s hC=>ad3 (s 13 1) (some ⟨s 13 0,0,none⟩) SH.length hC.2.1) (fun s=>rfl) (fun _ _ _ _=>trivial) (by intro s s' h;dsimp only;rw[h]<;>decide +kernel) ?_
 iterate 2 refine Dx ?_
 refine DQ.anil (k:=?_);intro sx _
 try simp only[List.map_cons,List.map_nil,List.cons_append,List.nil_append]
 generalize sx 3 0=gl;generalize sx 3 1 - T.length=rl;generalize sx 13 0=gs;generalize sx 13 1 - SH.length=rs
 repeat (first|refine WO.stores (zo (vs:=[AQ gl T.length T.length]) (hc:=aey hal) (hle:=by rw[vw hal];rfl)) ?_|refine WO.stores (zo (vs:=[.slice none 0 0]) (hc:=adK hal) (hle:=by rw[vw hal];rfl)) ?_|refine WO.stores (zo (vs:=[AQ gs SH.length SH.length]) (hc:=acV hal) (hle:=by rw[vw hal];rfl)) ?_|refine WO.does (zz (hc:=sF hal 4)) ?_|refine Tj ?_|intro _|refine Tc ?_|exact Tz)
 refine WC.loopI (σ:=Nat × List (Dd × Dk) × List Ent) (fun s=>s.1≤T.length∧s.2.1.length=T.length∧(∀ j,s.1≤j→s.2.1[j]?=T[j]?)∧s.2.1.map Prod.fst=T.map Prod.fst∧ddM s.2.2 (s.2.1.take s.1))
  (fun s=>[(1,Ap gW),(2,Ap gR),(55,AQ gl T.length T.length),(56,.int .i64 (T.length:Int)),(57,.int .i64 (s.1:Int))])
  (fun s=>⟨gl,51,s.2.1.flatMap (ddC ep)++mkz rl dzC⟩::⟨gW,144,whC ep ah cep (AQ gh HL.length HL.length) (AQ gv VL.length VL.length) (AQ go OL.length OL.length) (AQ gl T.length T.length) (.slice none 0 0) (AQ gs SH.length SH.length)⟩::⟨gR,144,whZ⟩::⟨go,70,OL.flatMap byC++mkz ro hzC⟩::⟨gv,140,VL.flatMap vtC++mkz rv vtZ⟩::⟨gh,70,HL.flatMap byC++mkz rh hzC⟩::⟨gs,53,SH.flatMap swC++mkz rs swZ⟩::s.2.2) (fun s=>T.length - s.1) (0,T,[]) (fun s hs=>?_) ⟨Nat.zero_le _,rfl,fun _ _=>rfl,rfl,ddM.nil⟩ (hl:=(by repeat (first|exact Lle.nil|exact Lle.same|refine Lle.cons Pk.a (by rfl) ?_|refine Lle.skip ?_)))
 ·obtain⟨i,Ti,M⟩:=s;obtain⟨hi,hTl,hTe,hTm,hM⟩:=hs
  try dsimp only at hi hTl hTe hTm hM ⊢
  by_cases hlt:i<T.length
  ·obtain⟨y,hy⟩ : ∃ y,T[i]?=some y:=⟨_,List.getElem?_eq_getElem hlt⟩;have hyi:=(hTe i (Nat.le_refl _)).trans hy;have hyT:=List.mem_of_getElem? hy;have hf:=h4b y hyT;have f1:0<y.1.V.length∧y.1.V.length≤1000:=⟨List.length_pos_iff.2 hf.v,by have:=hf.vl;omega⟩;have f2:0<y.1.Y.length∧y.1.Y.length≤1000:=⟨List.length_pos_iff.2 hf.y,by have:=hf.yl;omega⟩;have f3:0<y.1.P.length∧y.1.P.length≤1000:=⟨List.length_pos_iff.2 hf.p,by have:=hf.pl;omega⟩;have j1:=pC (some ⟨y.2.v,0,none⟩) y.1.V.length y.1.V f1.1 f1.2;have j2:=pC (some ⟨y.2.y,0,none⟩) y.1.Y.length y.1.Y f2.1 f2.2;have j3:=az (some ⟨y.2.p,0,none⟩) y.1.P.length y.1.P f3.1 f3.2;have hadd:IntKind.i64.wrap ((i:Int)+1)=((i+1:Nat):Int):=zl Om Om Om;have hcy:∀ r,cut (Ti.flatMap (ddC ep)++r) (0+i*13) 13=ddC ep y:=fun r=>by
    rw[Nat.zero_add];exact yF (k:=13) (fun _ _=>rfl) hyi
   have hle:∀ (A:List (Dd × Dk)) (r:LV) (j:Nat),A.length=T.length→j<13→Nat.ble (0+i*13+j+1) (A.flatMap (ddC ep)++r).length=true:=fun A r j hA hj=>Nat.ble_eq_true_of_le (by rw[List.length_append,yJ (k:=13) (fun _ _=>rfl),hA];omega);have hov:∀ (A:List (Dd × Dk)) (a b:Dd × Dk) (j:Nat) (vs r:LV),A[i]?=some a→(∀ r,over (ddC ep a++r) j vs=ddC ep b++r)→over (A.flatMap (ddC ep)++r) (0+i*13+j) vs=(A.set i b).flatMap (ddC ep)++r:=fun A a b j vs r h1 h2=>by
    rw[Nat.zero_add];exact dO (K:=13) (fun _=>rfl) h1 h2
   have hse:∀ b,(Ti.set i b)[i]?=some b:=fun b=>List.getElem?_set_self Om
   repeat (first|refine Tk ?_|intro _|exact Tz)
   refine WC.dT rfl Om ?_
   repeat (first|refine WO.does (zb (o':=0+i*13) rfl rfl hlt rfl) ?_|refine WO.does (zt (vs:=ddC ep y) (hc:=hcy _) (hl:=rfl)) ?_|refine WO.stores (zo (vs:=ddC ep y) (cs':=ddC ep y) (hl:=rfl) (h1:=rfl) (hc:=zE rfl) (hle:=rfl)) ?_|refine Tj ?_|intro _|refine Tc ?_|exact Tz)
   rename_i gd;refine WC.mainV [14,15,18,19,22,23,26,29,32] [(0,.pointer (some ⟨gW,37,none⟩)),(1,.pointer (some ⟨gW,37,none⟩)),(2,AQ gl T.length T.length),(3,.int .i64 (i:Int)),(4,.pointer (some ⟨gW,37,none⟩)),(5,.pointer (some ⟨gW,37,none⟩)),(6,AQ gl T.length T.length),(7,.int .i64 (i:Int)),(8,.pointer (some ⟨gW,37,none⟩)),(9,.pointer (some ⟨gW,37,none⟩)),(10,AQ gl T.length T.length),(11,.int .i64 (i:Int)),(12,.pointer (some ⟨gd,2,none⟩)),(13,AQ y.2.v y.1.V.length y.1.V.length),(16,.pointer (some ⟨gd,3,none⟩)),(17,AQ y.2.y y.1.Y.length y.1.Y.length),(20,.pointer (some ⟨gd,4,none⟩)),(21,AQ y.2.p y.1.P.length y.1.P.length),(24,.pointer (some ⟨gl,0+i*13,none⟩)),(25,.pointer (some ⟨gl,0+i*13+2,none⟩)),(27,.pointer (some ⟨gl,0+i*13,none⟩)),(28,.pointer (some ⟨gl,0+i*13+3,none⟩)),(30,.pointer (some ⟨gl,0+i*13,none⟩)),(31,.pointer (some ⟨gl,0+i*13+4,none⟩))] Dtt ?_;refine WT.with [⟨gW,144,whC ep ah cep (AQ gh HL.length HL.length) (AQ gv VL.length VL.length) (AQ go OL.length OL.length) (AQ gl T.length T.length) (.slice none 0 0) (AQ gs SH.length SH.length)⟩,⟨gd,51,ddC ep y⟩] Kr (Tlv.auto (Tlv.auto (Tlv.d rfl (zz (hc:=sF hal 4)) (Tlv.auto (Tlv.auto (Tlv.auto (Tlv.d rfl (zz (hc:=sF hal 4)) (Tlv.auto (Tlv.auto (Tlv.auto (Tlv.d rfl (zz (hc:=sF hal 4)) (Tlv.auto (Tlv.auto (Tlv.d rfl zz (Tlv.auto (Tlv.d rfl zz (Tlv.auto (Tlv.d rfl zz (Tlv.d rfl (zb (o':=0+i*13) rfl rfl hlt rfl) (Tlv.d rfl yw (Tlv.d rfl (zb (o':=0+i*13) rfl rfl hlt rfl) (Tlv.d rfl yw (Tlv.d rfl (zb (o':=0+i*13) rfl rfl hlt rfl) (Tlv.d rfl yw Tlv.nil)))))))))))))))))))))))) (fun hc hT=>?_)
   refine WT.one (m:=14) rfl hc hT ?_;refine WO.callsL (hc:=Fn.toL j1) (hp:=.nil) (hR:=fun wx hm=>(wE.a y hyT).v.mod hm.mod) (k:=fun v1 N1 hv=>?_);obtain⟨sx,rfl,rfl,hlgV,_⟩:=hv;simp only[List.cons_append,List.nil_append];generalize sx 0=gV at *;generalize sx 1=xV at *;refine WO.nil (WX.wt [(76,AQ gV y.1.V.length xV)] ?_);refine WT.one (m:=15) rfl hc hT ?_;refine WO.acall (hc:=kU xV (some ⟨gV,0,none⟩) y.1.V.length hlgV) (k:=?_);refine WO.nil (WX.wt [(77,AQ gV y.1.V.length y.1.V.length)] ?_);refine WT.one (m:=18) rfl hc hT ?_;refine WO.callsL (hc:=Fn.toL j2) (hp:=.nil) (hR:=fun wx hm=>(wE.a y hyT).y.mod hm.mod) (k:=fun v1 N1 hv=>?_);obtain⟨sx,rfl,rfl,hlgY,_⟩:=hv;simp only[List.cons_append,List.nil_append];generalize sx 0=gY at *;generalize sx 1=xY at *;refine WO.nil (WX.wt [(80,AQ gY y.1.Y.length xY)] ?_);refine WT.one (m:=19) rfl hc hT ?_;refine WO.acall (hc:=kU xY (some ⟨gY,0,none⟩) y.1.Y.length hlgY) (k:=?_);refine WO.nil (WX.wt [(81,AQ gY y.1.Y.length y.1.Y.length)] ?_);refine WT.one (m:=22) rfl hc hT ?_;refine WO.callsL (hc:=Fn.toL j3) (hp:=.nil) (hR:=fun wx hm=>(wE.a y hyT).p.mod hm.mod) (k:=fun v1 N1 hv=>?_);obtain⟨sx,rfl,rfl,hlgP,_⟩:=hv;simp only[List.cons_append,List.nil_append];generalize sx 0=gP at *;generalize sx 1=xP at *;refine WO.nil (WX.wt [(84,AQ gP y.1.P.length xP)] ?_);refine WT.one (m:=23) rfl hc hT ?_;refine WO.acall (hc:=aeU xP (some ⟨gP,0,none⟩) y.1.P.length hlgP) (k:=?_);refine WO.nil (WX.wt [(85,AQ gP y.1.P.length y.1.P.length)] ?_);generalize xV - y.1.V.length=rV;generalize xY - y.1.Y.length=rY;generalize xP - y.1.P.length=rP;have q1:(Ti.set i (y.1,⟨gV,y.2.y,y.2.p,rV,y.2.ry,y.2.rp⟩))[i]?=some (y.1,⟨gV,y.2.y,y.2.p,rV,y.2.ry,y.2.rp⟩):=hse _;have q2:((Ti.set i (y.1,⟨gV,y.2.y,y.2.p,rV,y.2.ry,y.2.rp⟩)).set i (y.1,⟨gV,gY,y.2.p,rV,rY,y.2.rp⟩))[i]?=some (y.1,⟨gV,gY,y.2.p,rV,rY,y.2.rp⟩):=by rw[List.set_set];exact hse _
   refine WT.one (m:=26) rfl hc hT ?_;refine WO.stores (zo (vs:=[AQ gV y.1.V.length y.1.V.length]) (hc:=hov _ _ (y.1,⟨gV,y.2.y,y.2.p,rV,y.2.ry,y.2.rp⟩) 2 _ _ hyi (fun r=>rfl)) (hle:=hle _ _ 2 (by simp[hTl]) Dtt)) ?_;refine WO.nil (WX.wt [] ?_);refine WT.one (m:=29) rfl hc hT ?_;refine WO.stores (zo (vs:=[AQ gY y.1.Y.length y.1.Y.length]) (hc:=hov _ _ (y.1,⟨gV,gY,y.2.p,rV,rY,y.2.rp⟩) 3 _ _ q1 (fun r=>rfl)) (hle:=hle _ _ 3 (by simp[hTl]) Dtt)) ?_;refine WO.nil (WX.wt [] ?_);refine WT.one (m:=32) rfl hc hT ?_;refine WO.stores (zo (vs:=[AQ gP y.1.P.length y.1.P.length]) (hc:=hov _ _ (y.1,⟨gV,gY,gP,rV,rY,rP⟩) 4 _ _ q2 (fun r=>rfl)) (hle:=hle _ _ 4 (by simp[hTl]) Dtt)) ?_;refine WO.nil (WX.wt [] ?_);refine WT.fin [32] 6 hc rfl Kr ?_;clear hc hT;simp only[List.set_set]
   repeat (first|refine WO.does (zi rfl rfl hadd) ?_|refine Tj ?_|intro _|refine Tc ?_|exact Tz)
   refine WX.metI (i+1,Ti.set i (y.1,⟨gV,gY,gP,rV,rY,rP⟩),⟨gV,24,y.1.V.flatMap zc++mkz rV (zc 0)⟩::⟨gY,24,y.1.Y.flatMap zc++mkz rY (zc 0)⟩::⟨gP,117,y.1.P.flatMap pfC++mkz rP (vE 0 0)⟩::M) (hl:=(by repeat (first|exact Lle.nil|exact Lle.same|refine Lle.cons Pk.a (by rfl) ?_|refine Lle.skip ?_))) (hs:=⟨⟨?_,?_,?_,?_,?_⟩,by show T.length - (i+1)<T.length - i;omega⟩)
   ·show i+1≤T.length;omega
   ·show (Ti.set i _).length=_;rw[List.length_set,hTl]
   ·intro j hj;show (Ti.set i _)[j]?=_;rw[List.getElem?_set_ne (by have:i+1≤j:=hj;omega)];exact hTe j (by have:i+1≤j:=hj;omega)
   ·show (Ti.set i _).map Prod.fst=_;rw[List.map_set,hTm];exact jN (by rw[List.getElem?_map,hy];rfl)
   ·show ddM _ ((Ti.set i _).take (i+1));rw[rG Om];exact ddM.snoc (y:=(y.1,⟨gV,gY,gP,rV,rY,rP⟩)) hM
  ·have hi2:i=T.length:=by omega
   subst hi2;rw[show Ti.take T.length=Ti from by rw[← hTl,List.take_length]] at hM
   repeat (first|refine Tk ?_|intro _|exact Tz)
   refine WC.dF rfl Om ?_
   repeat (first|refine WO.does (zz (hc:=sF hal 6)) ?_|refine Tj ?_|intro _|refine Tc ?_|exact Tz)
   refine WC.loopI (σ:=Nat × List Sw × List Ent) (fun s=>s.1≤SH.length∧s.2.1.length=SH.length∧(∀ j,s.1≤j→s.2.1[j]?=SH[j]?)∧s.2.1.map (fun x=>(x.e,x.d,x.P))=SH.map (fun x=>(x.e,x.d,x.P))∧swM s.2.2 (s.2.1.take s.1)∧(∀ x∈s.2.1.take s.1,x.c=x.P.length))
    (fun s=>[(1,Ap gW),(2,Ap gR),(95,AQ gs SH.length SH.length),(96,.int .i64 (SH.length:Int)),(97,.int .i64 (s.1:Int))])
    (fun s=>⟨gs,53,s.2.1.flatMap swC++mkz rs swZ⟩::⟨gW,144,whC ep ah cep (AQ gh HL.length HL.length) (AQ gv VL.length VL.length) (AQ go OL.length OL.length) (AQ gl T.length T.length) (.slice none 0 0) (AQ gs SH.length SH.length)⟩::⟨gR,144,whZ⟩::⟨go,70,OL.flatMap byC++mkz ro hzC⟩::⟨gv,140,VL.flatMap vtC++mkz rv vtZ⟩::⟨gh,70,HL.flatMap byC++mkz rh hzC⟩::⟨gl,51,Ti.flatMap (ddC ep)++mkz rl dzC⟩::(s.2.2++M)) (fun s=>SH.length - s.1) (0,SH,[]) (fun s hs=>?_) ⟨Nat.zero_le _,rfl,fun _ _=>rfl,rfl,swM.nil,fun _ h=>by cases h⟩ (hl:=(by repeat (first|exact Lle.nil|exact Lle.same|refine Lle.cons Pk.a (by rfl) ?_|refine Lle.skip ?_)))
   obtain⟨i,Si,M2⟩:=s;obtain⟨hi,hSl,hSe,hSm,hM2,hSc⟩:=hs
   try dsimp only at hi hSl hSe hSm hM2 hSc ⊢
   by_cases hlt:i<SH.length
   ·obtain⟨x,hx⟩ : ∃ x,SH[i]?=some x:=⟨_,List.getElem?_eq_getElem hlt⟩;have hxi:=(hSe i (Nat.le_refl _)).trans hx;have hxS:=List.mem_of_getElem? hx;have hf:=h5b x hxS;have j1:=pC x.pt x.c x.P hf.1 hf.2;have hadd:IntKind.i64.wrap ((i:Int)+1)=((i+1:Nat):Int):=zl Om Om Om;have hcx:∀ r,cut (Si.flatMap swC++r) (0+i*3) 3=swC x:=fun r=>by
     rw[Nat.zero_add];exact yF (k:=3) (fun _ _=>rfl) hxi
    have hle:∀ (r:LV),Nat.ble (i*3+2+1) (Si.flatMap swC++r).length=true:=fun r=>Nat.ble_eq_true_of_le (by rw[List.length_append,yJ (k:=3) (fun _ _=>rfl),hSl];omega);have hov:∀ (g:Nat) (r:LV),over (Si.flatMap swC++r) (i*3+2) [AQ g x.P.length x.P.length]=(Si.set i ⟨x.e,x.d,some ⟨g,0,none⟩,x.P,x.P.length⟩).flatMap swC++r:=fun g r=>by
     exact dO (K:=3) (fun _=>rfl) hxi (fun r=>rfl)
    repeat (first|refine Tk ?_|intro _|exact Tz)
    refine WC.dT rfl Om ?_
    repeat (first|refine WO.does (zb (o':=0+i*3) rfl rfl hlt rfl) ?_|refine WO.does (zt (vs:=swC x) (hc:=hcx _) (hl:=rfl)) ?_|refine WO.stores (zo (vs:=swC x) (cs':=swC x) (hl:=rfl) (h1:=rfl) (hc:=zE rfl) (hle:=rfl)) ?_|refine Tj ?_|intro _|refine Tc ?_|exact Tz)
    refine WC.adraw 8 (k:=?_)
    iterate 2 refine Dx ?_
    refine DQ.does (fun s _=>zz (hc:=sF hal 6)) Dp.const ?_
    iterate 3 refine Dx ?_
    refine DQ.acallXT (hc:=j1) (hS:=⟨fun _=>x.P.length,Nat.le_refl _,by show x.P.length<9223372036854775808;omega⟩) (hR:=fun w1 hm=>(wE.p x hxS).mod hm.mod) (k:=?_);refine DQ.call (v:=fun s=>AQ (s 6 0) x.P.length x.P.length) (fun s hC=>kU (s 6 1) (some ⟨s 6 0,0,none⟩) x.P.length hC.2.1) (fun s=>rfl) (fun _ _ _ _=>trivial) (by intro s s' h;dsimp only;rw[h]<;>decide +kernel) ?_;refine DQ.anil (k:=?_);intro sx _
    try simp only[List.map_cons,List.map_nil,List.cons_append,List.nil_append]
    generalize sx 6 0=gP;generalize sx 6 1 - x.P.length=rP
    repeat (first|refine WO.does (zb (o':=0+i*3) rfl rfl hlt rfl) ?_|refine WO.stores (zo (vs:=[AQ gP x.P.length x.P.length]) (hc:=hov _ _) (hle:=hle _)) ?_|refine WO.does (zi rfl rfl hadd) ?_|refine Tj ?_|intro _|refine Tc ?_|exact Tz)
    refine WX.metI ((i+1,Si.set i ⟨x.e,x.d,some ⟨gP,0,none⟩,x.P,x.P.length⟩,⟨gP,24,x.P.flatMap zc++mkz rP (zc 0)⟩::M2):Nat × List Sw × List Ent) (hl:=(by repeat (first|exact Lle.nil|exact Lle.same|refine Lle.cons Pk.a (by rfl) ?_|refine Lle.skip ?_))) (hs:=⟨⟨?_,?_,?_,?_,?_,?_⟩,by show SH.length - (i+1)<SH.length - i;omega⟩)
    ·show i+1≤SH.length;omega
    ·show (Si.set i _).length=_;rw[List.length_set,hSl]
    ·intro j hj;show (Si.set i _)[j]?=_;rw[List.getElem?_set_ne (by have:i+1≤j:=hj;omega)];exact hSe j (by have:i+1≤j:=hj;omega)
    ·show (Si.set i _).map _=_;rw[List.map_set,hSm];exact jN (by rw[List.getElem?_map,hx];rfl)
    ·show swM _ ((Si.set i _).take (i+1));rw[rG Om];exact swM.snoc (x:=⟨x.e,x.d,some ⟨gP,0,none⟩,x.P,x.P.length⟩) hM2 rfl
    ·show ∀ z∈(Si.set i _).take (i+1),_;rw[rG Om];intro z hz
     rcases List.mem_append.1 hz with hz|hz
     ·exact hSc z hz
     ·rw[List.mem_singleton.1 hz]
   have hi2:i=SH.length:=by omega
   subst hi2;rw[show Si.take SH.length=Si from by rw[← hSl,List.take_length]] at hM2 hSc
   repeat (first|refine Tk ?_|intro _|exact Tz)
   refine WC.dF rfl Om ?_
   repeat (first|refine WO.does (zt (vs:=whC ep ah cep (AQ gh HL.length HL.length) (AQ gv VL.length VL.length) (AQ go OL.length OL.length) (AQ gl T.length T.length) (.slice none 0 0) (AQ gs SH.length SH.length)) (hc:=zx (vw hal)) (hl:=vw hal)) ?_|refine WO.stores (zo (vs:=whC ep ah cep (AQ gh HL.length HL.length) (AQ gv VL.length VL.length) (AQ go OL.length OL.length) (AQ gl T.length T.length) (.slice none 0 0) (AQ gs SH.length SH.length)) (cs':=whC ep ah cep (AQ gh HL.length HL.length) (AQ gv VL.length VL.length) (AQ go OL.length OL.length) (AQ gl T.length T.length) (.slice none 0 0) (AQ gs SH.length SH.length)) (hl:=vw hal) (h1:=ab0 rfl rfl rfl rfl rfl rfl) (hc:=zE (by rw[vw hal];rfl)) (hle:=by rw[vw hal];rfl)) ?_|refine Tj ?_|intro _|refine Tc ?_|exact Tz)
   exact WX.ret1 rfl (yd rfl Hs.a (zx (vw hal)) (vw hal)) (⟨gh,70,HL.flatMap byC++mkz rh hzC⟩::⟨gv,140,VL.flatMap vtC++mkz rv vtZ⟩::⟨go,70,OL.flatMap byC++mkz ro hzC⟩::⟨gl,51,Ti.flatMap (ddC ep)++mkz rl dzC⟩::⟨gs,53,Si.flatMap swC++mkz rs swZ⟩::(M2++M)) (by repeat (first|exact Lle.nil|exact Lle.same|refine Lle.cons Pk.a (by rfl) ?_|refine Lle.skip ?_))
    ⟨gh,rh,gv,rv,go,ro,gl,rl,gs,rs,Ti,Si,M2++M,rfl,rfl,hTm,hSm,hSc,hM.more,hM2.left⟩
end
end Sx
end
section
open Go Go.RowKit Go.BigFrame
namespace Sx
section
variable {P:Program} {w0:World} {n:Nat} {ops:List Oper} {Q:Exit→Act→World→Prop} {K:List (Nat × Value)} {L:List Ent} {rest:List Oper}
variable {d:Nat} {op:Op} {ty:TypeId} {pos:String} {after:Array Edge} {gd:Option (Nat × Bool)}
theorem WO.callsQ {f:FuncId} [Cal P f] {xs:Array Operand} {ats:Array TypeId} {ar:LV} {A T:List Ent} {post:Value→List Ent→Prop} (hh:tc w0) (hp:L.Perm (T++A)) (hc:0 ∉ (T++A).map Ent.g→FnL P f ar (T++A) tc (fun v N=>∃ T',N=T'++A∧post v T'))
  (k:∀ v T',post v T'→WO P w0 [] n ops Q ((d,v)::K) (T'++A) rest) (ha:evs K xs.toList=some ar:=by rfl) (hd:Nat.blt d n=true:=by rfl) (hw:wk ops K gd=some true:=by rfl) :
  WO P w0 [] n ops Q K L (⟨some d,.call { callee:=.value (.func f),args:=xs,argTypes:=ats },ty,pos,after,gd⟩::rest):=by
 intro a w hdf hsz hk hme;refine wpList_step fun F hF=>?_;rw[if_pos (yG (o:=⟨some d,.call { callee:=.value (.func f),args:=xs,argTypes:=ats },ty,pos,after,gd⟩) hk hw)];have hd' : d<n:=by simpa [Nat.blt_eq] using hd
 have hme':=hme.perm hp;have h0:0 ∉ (T++A).map Ent.g:=fun h=>by
  obtain⟨e,he,h1⟩:=List.mem_map.1 h;have h2:=(hme'.mine e he).resolve_right Sm;have h3:0<w0.heap.size:=Seg.lt1 hh;omega
 have h1:=vp (P:=P) (f:=f) (ty:=ty) (pos:=pos) (after:=after) (gd:=gd) (dst:=some d) (ats:=ats) (x:=.func f) (w:=w) (fs:=[]) (cs:=[]) hk rfl ha;unfold Oper.wp;simp only[List.nil_append,List.append_nil] at h1;rw[h1,Oper.upon_enter];refine (hc h0 w hme'.ok hme'.nodup (hh.mod hme.mod Sm)).mono ?_;rintro e w' ⟨v,N,rfl,hm,T',rfl,hp⟩;have h4:Me w0 [] (T++A++[]) w:=by rw[List.append_nil];exact hme'
 have h5:=h4.callL hm;rw[List.append_nil] at h5;exact hF _ _ (k v T' hp _ _ (by rw[put_defers];exact hdf) (by rw[ym];exact hsz) (hk.put Om v) h5)
end
attribute [local irreducible] wd DQ WO WC WX WT ddH yX hOf voH vtS gnH
structure Wh where
 ep:Nat
 ah:List Nat
 HL:List (List Nat)
 VL:List Vt
 OL:List (List Nat)
 T:List (Dd × Dk)
 S:List Sw
 gh:Nat
 rh:Nat
 gv:Nat
 rv:Nat
 go:Nat
 ro:Nat
 gl:Nat
 rl:Nat
 gs:Nat
 rs:Nat
 M:List Ent
def whV (x:Wh):List Value:=whC x.ep x.ah x.ep (AQ x.gh x.HL.length x.HL.length) (AQ x.gv x.VL.length x.VL.length) (AQ x.go x.OL.length x.OL.length) (AQ x.gl x.T.length x.T.length) (.slice none 0 0) (AQ x.gs x.S.length x.S.length)
def whE (x:Wh):List Ent:=⟨x.gh,70,x.HL.flatMap byC++mkz x.rh hzC⟩::⟨x.gv,140,x.VL.flatMap vtC++mkz x.rv vtZ⟩::⟨x.go,70,x.OL.flatMap byC++mkz x.ro hzC⟩::⟨x.gl,51,x.T.flatMap (ddC x.ep)++mkz x.rl dzC⟩::⟨x.gs,53,x.S.flatMap swC++mkz x.rs swZ⟩::x.M
structure WhI (x:Wh):Prop where
 al:x.ah.length=32
 d:ddM x.M x.T
 s:swM x.M x.S
structure WhD (x:Wh) (ep:Nat) (ah:LN) (HL:List (List Nat)) (VL:List Vt) (OL:List (List Nat)) (T:List (Dd × Dk)) (SH:List Sw):Prop where
 ep:x.ep=ep
 ah:x.ah=ah
 H:x.HL=HL
 V:x.VL=VL
 O:x.OL=OL
 T:x.T.map Prod.fst=T.map Prod.fst
 S:x.S.map (fun y=>(y.e,y.d,y.P))=SH.map (fun y=>(y.e,y.d,y.P))
abbrev chC (p q g h:Nat) (f sec:Int) (ns l:Value):List Value:=stC p q g h f sec ns++[.int .i64 1,l]
def chE (p q g h:Nat) (f sec:Int) (N:LP) (P gN cN gl cl:Nat) (X:List Wh):List Ent :=
 ⟨P,136,chC p q g h f sec (AQ gN N.length cN) (agV gl cl X.length X.length)⟩::⟨gN,105,N.flatMap z8++mkz (cN - N.length) (vE 0 0)⟩::(rwL 144 gl (X.flatMap whV) (mkz (cl - X.length) whZ) X.length++X.flatMap whE)
section
variable (p q g h:Nat) (f sec:Int) (ns l:Value) (P:Nat)
theorem vQ:Fn Tryz.prog 50 [pt P] (fun w=>Seg w P 0 (chC p q g h f sec ns l)) (Is (.bool true)):=by
 refine Fn.enter Tryz.func50 rfl rfl rfl ?_;intro w hw
 repeat (first|refine WO.does (fb (e:=136) Kr rfl rfl) ?_|refine WO.does (zm (hs:=hw) (hc:=rfl)) ?_|refine WO.does (zN rfl rfl rfl) ?_|refine Tj ?_|intro _|refine Tc ?_|exact Tz)
 done
end
section
variable (p q g h:Nat) (f sec:Int) (ns:Value) (P gl cl n:Nat)
theorem ac5:Fn Tryz.prog 20 [pt P] (fun w=>Seg w P 0 (chC p q g h f sec ns (agV gl cl n n))) (Is (.int .i64 (n:Int))):=by
 have hT:=vQ p q g h f sec ns (agV gl cl n n) P;obtain⟨V,hV,pp,c',hVs⟩ : ∃ V,agV gl cl n n=V∧∃ pp c',V=.slice pp n c':=⟨_,rfl,by cases n<;>exact⟨_,_,rfl⟩⟩;rw[hV] at hT ⊢;clear hV;subst hVs;refine Fn.enter Tryz.func20 rfl rfl rfl ?_;intro w hw
 repeat (first|refine WO.does (zm (hs:=hw) (hc:=rfl)) ?_|refine Tj ?_|intro _|refine WO.acallR (hc:=hT) (hR:=fun wx hm=>hw.mod hm.mod Sm) (k:=?_)|refine Tc ?_|exact Tz)
 done
end
section
variable (p q g h F m:Nat) (N:LP) (P gN cN:Nat)
theorem ba (hp:p<ze) (hq:q<ze) (hg:g<ze) (hh:h<ze) (hN:zY N) (hNl:N.length≤100) (hs:y7 p q g h (F:Int) (m:Int) N=true) :
  Fn Tryz.prog 18 [pt P] (fun w=>Seg w P 0 (chC p q g h (F:Int) (m:Int) (AQ gN N.length cN) (.slice none 0 0))∧RdF z8 (AQ gN N.length cN) N w) (Is (.agg (byC (gnH p q g h F m N)).toArray)):=by
 have hT:=vQ p q g h (F:Int) (m:Int) (AQ gN N.length cN) (.slice none 0 0) P;have hG:=abP p q g h F m (some ⟨gN,0,none⟩) cN N hp hq hg hh hN hNl hs;have hal:(gnH p q g h F m N).length=32:=by unfold gnH;exact zJ _ _
 generalize gnH p q g h F m N=H at *;have hbl:(byC H).length=32:=by rw[zd];exact hal
 refine Fn.enter Tryz.func18 rfl rfl rfl ?_;intro w hw;obtain⟨w1,w2⟩:=hw
 repeat (first|refine WO.does (zm (hs:=w1) (hc:=rfl)) ?_|refine WO.does (zn (vs:=stC p q g h (F:Int) (m:Int) (AQ gN N.length cN)) (hs:=w1) (hc:=rfl)) ?_|refine WO.stores (zo (vs:=byC H) (cs':=byC H) (hl:=hbl) (h1:=zM H) (hc:=zE (by rw[hbl];rfl)) (hle:=by rw[hbl];rfl)) ?_|refine Tj ?_|intro _|refine WO.acallR (hc:=hT) (hR:=fun wx hm=>w1.mod hm.mod Sm) (k:=?_)|refine WO.acallR (hc:=hG) (hR:=fun wx hm=>w2.mod hm.mod) (k:=?_)|refine Tc ?_|exact Tz)
 exact WX.aret1 (hr:=vF (vs:=byC H) (hc:=zx hbl) (hl:=hbl)) (hp:=rfl)
end
def NcP (p q g h:Nat) (f sec:Int) (N:LP):Value→List Ent→Prop:=fun v M=>∃ P gN cN,v=.tuple #[Sx.pt P,.int .i64 0]∧M=chE p q g h f sec N P gN cN 0 0 []
section
variable (p q g h:Nat) (f sec:Int) (pt:Option Addr) (c:Nat) (N:LP)
theorem adn (hp:p<ze) (hq:q<ze) (hg:g<ze) (hh:h<ze) (hN:zY N) (hNl:N.length≤100) (hf1 : -9223372036854775808≤f) (hf2:f≤9223372036854775807) (hs1 : -9223372036854775808≤sec) (hs2:sec≤9223372036854775807) (hs:y7 p q g h f sec N=true) :
  Fn Tryz.prog 16 [stV p q g h f sec (.slice pt N.length c)] (fun w=>RdF z8 (.slice pt N.length c) N w) (NcP p q g h f sec N):=by
 have hS:=yj p q g h f sec pt c N hp hq hg hh hN Om hf1 hf2 hs1 hs2;rw[hs] at hS;have h1:=(zS hs).1;have hC:=abO pt c N Om Om;refine Fn.enter Tryz.func16 rfl rfl rfl ?_;intro w hw
 repeat (first|refine Tj ?_|intro _|refine WO.acallR (hc:=hS) (hR:=fun w1 hm=>(hw.mod hm.mod).rdK) (k:=?_)|refine Tc ?_|exact Tz)
 refine WO.acallX (hc:=hC) (hR:=fun w1 hm=>hw.mod hm.mod) (k:=fun yy hyy=>?_);generalize yy 0=gN;generalize yy 1=cN;simp only[List.cons_append,List.nil_append]
 repeat (first|refine Tk ?_|intro _|exact Tz)
 rename_i gS gP;exact WX.ret2 rfl (zK rfl) (zK rfl) [⟨gP,136,chC p q g h f sec (AQ gN N.length cN) (.slice none 0 0)⟩,⟨gN,105,N.flatMap z8++mkz (cN - N.length) (vE 0 0)⟩] (by repeat (first|exact Lle.nil|refine Lle.m ?_|refine Lle.c ?_)) ⟨gP,gN,cN,rfl,rfl⟩
end
end Sx
end
section
open Go Go.RowKit Go.BigFrame
namespace Sx
attribute [local irreducible] DQ WC WO WT WX yX ddH gnH hOf voH vtS wd
section
variable (gw g c:Nat) (B:LN) (n:Nat)
theorem aB (hn:B.length=n) (hB:n≤100000):FnL Tryz.prog 127 [Sx.pt gw,.slice none 0 0,.func (.func 128) #[Sx.pt gw] #[]] (wrE gw g c B n) Tr (WrP gw (B++be 1 0) (n+1)):=by
 refine FnL.enter Tryz.func127 rfl rfl rfl ?_;intro w _;generalize hG:(wrE gw g c B n).map Ent.g=GS;clear hG;have hc0:IntKind.u64.wrap (0:Int)=((0:Nat):Int):=rfl;unfold wrE
 repeat (first|refine WO.does (yu rfl rfl Dtt) ?_|refine WO.does (vD (r:=((0:Nat):Int)) rfl rfl rfl) ?_|refine WO.does (vu (h:=0) rfl rfl Dtt) ?_|refine WO.does (zr rfl hc0) ?_|refine Tj ?_|intro _|refine Tc ?_|exact Tz)
 refine WO.callsW (A:=[]) (T:=wrE gw g c B n) (hc:=mz gw g c B n 0 1 (n+1) Dtt Dtt hn hB rfl) rfl tP (fun _ _=>trivial) (fun v N hv=>?_);obtain⟨g1,c1,rfl,rfl,hr⟩:=hv;simp only[List.nil_append]
 repeat (first|refine Tk ?_|intro _|exact Tz)
 refine WC.loopI (σ:=Unit) (fun _=>True) (fun _=>[(31,.int .i64 ((0:Nat):Int)),(32,.int .i64 ((0:Nat):Int))]) (fun _=>wrE gw g1 c1 (B++be 1 0) (n+1)) (fun _=>0) () (fun _ _=>?_) trivial (hl:=Lle.same)
 try dsimp only
 repeat (first|refine Tk ?_|intro _|exact Tz)
 exact WX.retP_ofN (N:=wrE gw g1 c1 (B++be 1 0) (n+1)) (qw rfl) Lle.left' ⟨g1,c1,rfl,rfl,hr⟩
theorem eJ (m:Nat) (pH:Option Addr) (cH:Nat) (HL:List (List Nat)) (hcH:HL.length≤cH) (hH:∀ X∈HL,X.length=32) (h0:0<HL.length) (hl:HL.length≤64) (hn:B.length=n) (hB:n≤10000) (hm:n+1+32*HL.length=m) (hp:∀ a,pH=some a→a.block ∉ (wrE gw g c B n).map Ent.g) :
  FnL Tryz.prog 126 [Sx.pt gw,.slice pH HL.length cH,.func (.func 125) #[Sx.pt gw] #[]] (wrE gw g c B n) (RdF byC (.slice pH HL.length cH) HL) (WrP gw (B++be 1 HL.length++HL.flatten) m):=by
 refine FnL.enter Tryz.func126 rfl rfl rfl ?_;intro w hw;generalize hG:(wrE gw g c B n).map Ent.g=GS at *;clear hG;have hcv:IntKind.u64.wrap (HL.length:Int)=((HL.length:Nat):Int):=u64_in Om Om;have hmin:(if (64:Int)<(HL.length:Int) then (64:Int) else (HL.length:Int))=((HL.length:Nat):Int):=by rw[if_neg Om]
 unfold wrE
 repeat (first|refine WO.does (yu rfl rfl Om) ?_|refine WO.does (vD rfl rfl hmin) ?_|refine WO.does (vu (h:=HL.length) rfl rfl hcH) ?_|refine WO.does (zr rfl hcv) ?_|refine Tj ?_|intro _|refine Tc ?_|exact Tz)
 refine WO.callsW (A:=[]) (T:=wrE gw g c B n) (hc:=mz gw g c B n HL.length 1 (n+1) Dtt Dtt hn Om rfl) rfl tP (fun _ _=>trivial) (fun v N hv=>?_);obtain⟨g1,c1,rfl,rfl,hr⟩:=hv;simp only[List.nil_append]
 repeat (first|refine Tk ?_|intro _|exact Tz)
 refine WC.loopI (σ:=Nat × Nat × Nat) (fun s=>s.1≤HL.length∧(s.2.1≤s.2.1∧n+1+32*s.1≤s.2.2∧s.2.2<9223372036854775808)) (fun s=>[(2,.func (.func 125) #[Sx.pt gw] #[]),(30,.slice pH HL.length cH),(31,.int .i64 (HL.length:Int)),(32,.int .i64 (s.1:Int))])
  (fun s=>wrE gw s.2.1 s.2.2 (B++be 1 HL.length++(HL.take s.1).flatten) (n+1+32*s.1)) (fun s=>HL.length - s.1) (0,g1,c1) (fun s hi=>?_) ⟨Nat.zero_le _,Nat.le_refl _,hr Om⟩ (hl:=by simp only[List.take_zero,List.flatten_nil,List.append_nil,Nat.mul_zero,Nat.add_zero];exact Lle.same)
 obtain⟨i,g2,c2⟩:=s;obtain⟨hi,_,r1,r2⟩:=hi
 try dsimp only at hi r1 r2 ⊢
 have hBl:∀ i,i≤HL.length→(B++be 1 HL.length++(HL.take i).flatten).length=n+1+32*i:=fun i hi=>by
  rw[List.length_append,List.length_append,hn,zj];have:((HL.take i).flatten).length=i*32:=by
   have:=yJ (f:=fun X:List Nat=>byC X) (k:=32) (xs:=HL.take i) (fun X hX=>by rw[zd];exact hH X (List.mem_of_mem_take hX));rw[List.length_take,Nat.min_eq_left hi] at this;rw[← this];clear this
   induction HL.take i with
   | nil=>rfl
   | cons x r ih=>rw[List.flatten_cons,List.length_append,List.flatMap_cons,List.length_append,zd,ih]
  omega
 by_cases hlt:i<HL.length
 ·obtain⟨X,hX⟩ : ∃ X,HL[i]?=some X:=⟨_,List.getElem?_eq_getElem hlt⟩;have hX32:=hH X (List.mem_of_getElem? hX);have hblX:(byC X).length=32:=by rw[zd,hX32]
  obtain⟨b,o,rfl,_,hs⟩:=id hw |>.get hX
  have hbG:=hp _ rfl;have hc2:cut (HL.flatMap byC) (o+i*32 - o) 32=byC X:=by
   rw[Nat.add_sub_cancel_left];exact ve (k:=32) (fun x hx=>by rw[zd,hH x hx]) hX
  have hadd:IntKind.i64.wrap ((i:Int)+1)=((i+1:Nat):Int):=zl Om Om Om;have hB2:=hBl i hi;have hBn:B++be 1 HL.length++(HL.take i).flatten++X=B++be 1 HL.length++(HL.take (i+1)).flatten:=by
   rw[List.take_add_one,hX];simp
  have hkh:=db gw g2 c2 (B++be 1 HL.length++(HL.take i).flatten) (n+1+32*i) X (n+1+32*(i+1)) hX32 hB2 Om Om (fun _=>⟨r1,r2⟩);rw[hBn] at hkh
  repeat (first|refine Tk ?_|intro _|exact Tz)
  refine WC.dT rfl Om ?_
  repeat (first|refine WO.does (zb (o':=o+i*32) rfl rfl hlt rfl) ?_|refine WO.does (zn (vs:=byC X) (hs:=hs) (hle:=Nat.le_add_right _ _) (hb:=hbG) (hc:=hc2) (hl:=hblX)) ?_|refine WO.stores (zo (vs:=byC X) (cs':=byC X) (hl:=hblX) (h1:=zM X) (hc:=zE (by rw[hblX];rfl)) (hle:=by rw[hblX];rfl)) ?_|refine WO.does (zt (vs:=byC X) (hc:=zx hblX) (hl:=hblX)) ?_|refine Tj ?_|intro _|refine Tc ?_|exact Tz)
  refine WO.callsWV (fs:=[Sx.pt gw]) (cs:=[]) (A:=[_]) (hc:=hkh) rfl rfl rfl rfl tP (fun _ _=>trivial) (fun v N hv=>?_);obtain⟨g3,c3,rfl,rfl,hr3⟩:=hv;simp only[List.singleton_append];obtain⟨r3,r4⟩:=hr3 Om
  repeat (first|refine WO.does (zi rfl rfl hadd) ?_|refine Tj ?_|intro _|refine Tc ?_|exact Tz)
  exact WX.metI (i+1,g3,c3) (hl:=Lle.skp Lle.left') (hs:=⟨⟨by show i+1≤HL.length;omega,Nat.le_refl _,r3,r4⟩,by show HL.length - (i+1)<HL.length - i;omega⟩)
 have hi2:i=HL.length:=by omega
 subst hi2
 repeat (first|refine Tk ?_|intro _|exact Tz)
 refine WC.dF rfl Om ?_
 repeat (first|refine Tk ?_|intro _|exact Tz)
 rw[List.take_length,hm];exact WX.retP_ofN (N:=wrE gw g2 c2 (B++be 1 HL.length++HL.flatten) m) (qw rfl) Lle.left' ⟨g2,c2,rfl,rfl,fun _=>⟨by omega,r2⟩⟩
end
theorem RdF.below {p:Option Addr} {n c:Nat} {HL:List (List Nat)} {w:World} (h:RdF byC (.slice p n c) HL w) (hH:∀ X∈HL,X.length=32) (h0:0<HL.length):∀ a,p=some a→a.block<w.heap.size:=by
 intro a e;subst e;obtain⟨_,_,e,h1⟩:=h;cases e
 rcases h1 with ⟨h1,_⟩|⟨b,o,h1,hs⟩
 ·cases h1
 ·cases h1;cases HL with
  | nil=>cases h0
  | cons X r =>
   have hX:=hH X (List.mem_cons_self ..);cases X with
   | nil=>cases hX
   | cons x xs=>exact Seg.lt1 hs
theorem acq {A:List Ent} {gw g c n sz b:Nat} {B:LN} (hmn:∀ e∈A++wrE gw g c B n,sz≤e.g∨e.g∈[gw]) (h1:b<sz) (h2:b<gw):b ∉ (wrE gw g c B n).map Ent.g:=fun h=>by
 obtain⟨e,he,h3⟩:=List.mem_map.1 h
 rcases hmn e (List.mem_append_right _ he) with h4|h4
 ·omega
 ·have h5:=List.mem_singleton.1 h4;omega
def blB (ep:Nat) (ah:LN) (HL OL:List (List Nat)):List Nat:=[]++be 8 ep++ah++be 8 ep++be 1 HL.length++HL.flatten++be 1 0++be 1 OL.length++OL.flatten
def dq:ByteArray:=⟨#[98,108,111,99,107]⟩
def blH (ep:Nat) (ah:LN) (HL OL:List (List Nat)):List Nat:=hOf (zO dq) [blB ep ah HL OL]
theorem pT {HL:List (List Nat)} (hH:∀ X∈HL,X.length=32):HL.flatten.length=32*HL.length:=by
 induction HL with
 | nil=>rfl
 | cons x r ih =>
  rw[List.flatten_cons,List.length_append,hH x (List.mem_cons_self ..),ih (fun X hX=>hH X (List.mem_cons_of_mem _ hX)),List.length_cons];omega
section
variable (ep:Nat) (ah:LN) (pH pO:Option Addr) (cH cO:Nat) (HL OL:List (List Nat))
theorem aed (hah:ah.length=32) (hH:∀ X∈HL,X.length=32) (hO:∀ X∈OL,X.length=32):(blB ep ah HL OL).length=51+32*HL.length+32*OL.length:=by
 unfold blB;simp only[List.length_append,zj,List.length_nil,hah,pT hH,pT hO];omega
theorem aga (hab:∀ b∈ah,b<256) (hH:∀ X∈HL,∀ b∈X,b<256) (hO:∀ X∈OL,∀ b∈X,b<256):∀ b∈blB ep ah HL OL,b<256:=by
 unfold blB;intro b hb;simp only[List.mem_append,List.nil_append,List.mem_flatten] at hb
 rcases hb with ((((((hb|hb)|hb)|hb)|hb)|hb)|hb)|hb
 ·exact yZ b hb
 ·exact hab b hb
 ·exact yZ b hb
 ·exact yZ b hb
 ·obtain⟨X,hX,hb⟩:=hb;exact hH X hX b hb
 ·exact yZ b hb
 ·exact yZ b hb
 ·obtain⟨X,hX,hb⟩:=hb;exact hO X hX b hb
variable (hah:ah.length=32) (hH:∀ X∈HL,X.length=32) (hO:∀ X∈OL,X.length=32) (h0:0<HL.length∧HL.length≤64) (h1:0<OL.length∧OL.length≤64) (hcH:HL.length≤cH) (hcO:OL.length≤cO)
include hah hH hO h0 h1 hcH hcO
theorem ahh (gw m:Nat) (hm:51+32*HL.length+32*OL.length=m):FnL Tryz.prog 54 [Sx.pt gw,.agg (bkC ep ah ep (.slice pH HL.length cH) (.slice none 0 0) (.slice pO OL.length cO)).toArray] [⟨gw,217,[.slice none 0 0,.bool false]⟩]
  (fun w=>RdF byC (.slice pH HL.length cH) HL w∧RdF byC (.slice pO OL.length cO) OL w∧(∀ a,pH=some a→a.block<gw)∧∀ a,pO=some a→a.block<gw) (WrP gw (blB ep ah HL OL) m):=by
 have hblA:(byC ah).length=32:=by rw[zd,hah]
 have hf1:=pT hH;have hf2:=pT hO;have b1:([]++be 8 ep:LN).length=8:=by simp[zj]
 have b2:([]++be 8 ep++ah:LN).length=40:=by simp[zj,hah]
 have b3:([]++be 8 ep++ah++be 8 ep:LN).length=48:=by simp[zj,hah]
 have b4:([]++be 8 ep++ah++be 8 ep++be 1 HL.length++HL.flatten:LN).length=49+32*HL.length:=by simp only[List.length_append,zj,hah,hf1,List.length_nil]<;>omega
 have b5:([]++be 8 ep++ah++be 8 ep++be 1 HL.length++HL.flatten++be 1 0:LN).length=50+32*HL.length:=by simp only[List.length_append,zj,hah,hf1,List.length_nil]<;>omega
 refine FnL.enter Tryz.func54 rfl rfl rfl ?_;intro w hw;obtain⟨wH,wO,fH,fO⟩:=hw;have lH:=wH.below hH h0.1;have lO:=wO.below hO h1.1;have far1:∀ a,pH=some a→a.block ∉ [gw]:=fun a e h=>by have:=fH a e;have:=List.mem_singleton.1 h;omega
 have far2:∀ a,pO=some a→a.block ∉ [gw]:=fun a e h=>by have:=fO a e;have:=List.mem_singleton.1 h;omega
 show WC _ w [gw] _ _ _ _ _
 repeat (first|refine Tk ?_|intro _|exact Tz)
 refine WO.callsW (A:=[_]) (T:=wrE gw 0 0 [] 0) (hc:=mz gw 0 0 [] 0 ep 8 8 Dtt Dtt rfl Dtt rfl) rfl tP (fun _ _=>trivial) (fun v N hv=>?_);obtain⟨g1,c1,rfl,rfl,hr1⟩:=hv;simp only[List.singleton_append]
 repeat (first|refine WO.does (zt (vs:=byC ah) (hc:=agM hah) (hl:=hblA)) ?_|refine Tj ?_|intro _|refine Tc ?_|exact Tz)
 refine WO.callsW (A:=[_]) (T:=wrE gw g1 c1 _ 8) (hc:=db gw g1 c1 _ 8 ah 40 hah b1 Dtt rfl hr1) rfl tP (fun _ _=>trivial) (fun v N hv=>?_);obtain⟨g2,c2,rfl,rfl,_⟩:=hv;simp only[List.singleton_append]
 repeat (first|refine WO.does (zz (hc:=mq hah 0)) ?_|refine Tj ?_|intro _|refine Tc ?_|exact Tz)
 refine WO.callsW (A:=[_]) (T:=wrE gw g2 c2 _ 40) (hc:=mz gw g2 c2 _ 40 ep 8 48 Dtt Dtt b2 Dtt rfl) rfl tP (fun _ _=>trivial) (fun v N hv=>?_);obtain⟨g3,c3,rfl,rfl,hr3⟩:=hv;simp only[List.singleton_append]
 repeat (first|refine WO.does (zz (hc:=mq hah 1)) ?_|refine WO.does (zH rfl rfl) ?_|refine Tj ?_|intro _|refine Tc ?_|exact Tz)
 refine WO.mine (fun hmn=>?_);refine WO.callsW (A:=[_]) (T:=wrE gw g3 c3 _ 48) (hc:=eJ gw g3 c3 _ 48 (49+32*HL.length) pH cH HL hcH hH h0.1 h0.2 b3 Dtt Om (fun a e=>acq (A:=[_]) hmn (lH a e) (fH a e))) rfl tP (fun wx hm=>wH.modF hm.mod far1) (fun v N hv=>?_);obtain⟨g4,c4,rfl,rfl,hr4⟩:=hv;simp only[List.singleton_append]
 repeat (first|refine WO.does (zz (hc:=mq hah 2)) ?_|refine WO.does (zH rfl rfl) ?_|refine Tj ?_|intro _|refine Tc ?_|exact Tz)
 refine WO.callsW (A:=[_]) (T:=wrE gw g4 c4 _ (49+32*HL.length)) (hc:=aB gw g4 c4 _ (49+32*HL.length) b4 Om) rfl tP (fun _ _=>trivial) (fun v N hv=>?_);obtain⟨g5,c5,rfl,rfl,hr5⟩:=hv;simp only[List.singleton_append]
 repeat (first|refine WO.does (zz (hc:=mq hah 3)) ?_|refine WO.does (zH rfl rfl) ?_|refine Tj ?_|intro _|refine Tc ?_|exact Tz)
 refine WO.mine (fun hmn=>?_);refine WO.callsW (A:=[_]) (T:=wrE gw g5 c5 _ (49+32*HL.length+1)) (hc:=eJ gw g5 c5 _ (49+32*HL.length+1) m pO cO OL hcO hO h1.1 h1.2 (by rw[b5];omega) Om Om (fun a e=>acq (A:=[_]) hmn (lO a e) (fO a e))) rfl tP (fun wx hm=>wO.modF hm.mod far2) (fun v N hv=>?_);obtain⟨g6,c6,rfl,rfl,hr6⟩:=hv;simp only[List.singleton_append]
 repeat (first|refine Tk ?_|intro _|exact Tz)
 exact WX.retP_ofN (N:=wrE gw g6 c6 (blB ep ah HL OL) m) (qw rfl) (Lle.skp Lle.left') ⟨g6,c6,rfl,rfl,hr6⟩
theorem agO (gw gv m:Nat) (hm:51+32*HL.length+32*OL.length=m):FnL Tryz.prog 53 ([Sx.pt gw]++[Sx.pt gv]) [⟨gw,217,[.slice none 0 0,.bool false]⟩]
  (fun w=>(Seg w gv 0 (bkC ep ah ep (.slice pH HL.length cH) (.slice none 0 0) (.slice pO OL.length cO))∧gv<gw)∧RdF byC (.slice pH HL.length cH) HL w∧RdF byC (.slice pO OL.length cO) OL w∧(∀ a,pH=some a→a.block<gw)∧∀ a,pO=some a→a.block<gw) (WrP gw (blB ep ah HL OL) m):=by
 have hbk:=y8 (ep:=ep) (cep:=ep) (sD:=.slice pH HL.length cH) (sV:=.slice none 0 0) (sO:=.slice pO OL.length cO) hah;refine FnL.enter Tryz.func53 rfl rfl rfl ?_;intro w hw;obtain⟨⟨hw,hlt⟩,wH,wO,fH,fO⟩:=hw;have far1:∀ a,pH=some a→a.block ∉ [gw]:=fun a e h=>by have:=fH a e;have:=List.mem_singleton.1 h;omega
 have far2:∀ a,pO=some a→a.block ∉ [gw]:=fun a e h=>by have:=fO a e;have:=List.mem_singleton.1 h;omega
 repeat (first|refine WO.does (zn (vs:=bkC ep ah ep (.slice pH HL.length cH) (.slice none 0 0) (.slice pO OL.length cO)) (hs:=hw) (hle:=Nat.zero_le _) (hb:=by simp;omega) (hc:=zx hbk) (hl:=hbk)) ?_|refine Tj ?_|intro _|refine Tc ?_|exact Tz)
 refine WO.callsL (hc:=ahh ep ah pH pO cH cO HL OL hah hH hO h0 h1 hcH hcO gw m hm) (hp:=.cons .here .nil) (fun wx hm=>⟨wH.modF hm.mod far1,wO.modF hm.mod far2,fH,fO⟩) (fun v N hv=>?_);obtain⟨g5,c5,rfl,rfl,hr5⟩:=hv;simp only[List.append_nil]
 repeat (first|refine Tk ?_|intro _|exact Tz)
 exact WX.retP_ofN (N:=wrE gw g5 c5 (blB ep ah HL OL) m) (qw rfl) Lle.left' ⟨g5,c5,rfl,rfl,hr5⟩
theorem abJ (sV:Value) (hV:sV.oneCell'=true) (hab:∀ b∈ah,b<256) (hHb:∀ X∈HL,∀ b∈X,b<256) (hOb:∀ X∈OL,∀ b∈X,b<256):Fn Tryz.prog 21 [.agg (bkC ep ah ep (.slice pH HL.length cH) sV (.slice pO OL.length cO)).toArray]
  (fun w=>RdF byC (.slice pH HL.length cH) HL w∧RdF byC (.slice pO OL.length cO) OL w) (Is (.agg (byC (blH ep ah HL OL)).toArray)):=by
 have hbk:=y8 (ep:=ep) (cep:=ep) (sD:=.slice pH HL.length cH) (sV:=sV) (sO:=.slice pO OL.length cO) hah;have hbl:(byC (blH ep ah HL OL)).length=32:=by rw[zd];exact zJ _ _
 have hBl:=aed ep ah HL OL hah hH hO
 have hHs:=fun gv=>jD (f:=53) [Sx.pt gv] dq (blB ep ah HL OL) (51+32*HL.length+32*OL.length) (fun w=>Seg w gv 0 (bkC ep ah ep (.slice pH HL.length cH) (.slice none 0 0) (.slice pO OL.length cO))∧RdF byC (.slice pH HL.length cH) HL w∧RdF byC (.slice pO OL.length cO) OL w)
  (fun gw w=>(Seg w gv 0 (bkC ep ah ep (.slice pH HL.length cH) (.slice none 0 0) (.slice pO OL.length cO))∧gv<gw)∧RdF byC (.slice pH HL.length cH) HL w∧RdF byC (.slice pO OL.length cO) OL w∧(∀ a,pH=some a→a.block<gw)∧∀ a,pO=some a→a.block<gw)
  (fun w wx gw g1 g2 g3=>⟨⟨g1.1.mod g3 Sm,Nat.lt_of_lt_of_le (Seg.lt1 g1.1) g2⟩,g1.2.1.mod g3,g1.2.2.mod g3,fun a e=>Nat.lt_of_lt_of_le (g1.2.1.below hH h0.1 a e) g2,fun a e=>Nat.lt_of_lt_of_le (g1.2.2.below hO h1.1 a e) g2⟩) Dtt hBl Om Om (aga ep ah HL OL hab hHb hOb) (fun gw=>agO ep ah pH pO cH cO HL OL hah hH hO h0 h1 hcH hcO gw gv _ rfl)
 rw[show hOf (zO dq) [blB ep ah HL OL]=blH ep ah HL OL from rfl] at hHs;generalize blH ep ah HL OL=HS at *;refine Fn.enter Tryz.func21 rfl rfl rfl ?_;intro w hw;obtain⟨w1,w2⟩:=hw
 repeat (first|refine WO.stores (zo (vs:=[.slice none 0 0]) (cs':=bkC ep ah ep (.slice pH HL.length cH) (.slice none 0 0) (.slice pO OL.length cO)) (hc:=bG hah) (hle:=by rw[y8 hah];rfl)) ?_|refine WO.does (zH rfl rfl) ?_|refine Tj ?_|intro _|refine Tc ?_|exact Tz)
 rename_i gv gR;refine WO.acallR (hc:=hHs gv) (hR:=fun wx hm=>⟨Hs.sg hm,w1.mod hm.mod,w2.mod hm.mod⟩) (k:=?_)
 repeat (first|refine Tj ?_|intro _|refine WO.stores (zo (vs:=byC HS) (cs':=byC HS) (hl:=hbl) (h1:=zM HS) (hc:=zE (by rw[hbl];rfl)) (hle:=by rw[hbl];rfl)) ?_|refine Tc ?_|exact Tz)
 exact WX.aret1 (hr:=vF (vs:=byC HS) (hc:=zx hbl) (hl:=hbl)) (hp:=rfl)
end
theorem fill_whole {ep cep:Nat} {ah:LN} {sD sV sO l o s:Value} (h:ah.length=32) (h2:cellsOf (.agg #[l,o,s])=[l,o,s]):ue (nth [(0,37),(37,3)]) whZ [(0,.agg (bkC ep ah cep sD sV sO).toArray),(1,.agg #[l,o,s])]=some (whC ep ah cep sD sV sO l o s):=by
 have hb:(bkC ep ah cep sD sV sO).length=37:=y8 h;rw[yr (off:=0) (size:=37) (vs:=bkC ep ah cep sD sV sO) rfl (by simp[cellsOf]) hb rfl]
 rw[show over whZ 0 (bkC ep ah cep sD sV sO)=bkC ep ah cep sD sV sO++[.slice none 0 0,.slice none 0 0,.slice none 0 0] from by
  show over (bkZ++[.slice none 0 0,.slice none 0 0,.slice none 0 0]) 0 _=_;rw[u7 (by rw[hb];rfl)]]
 rw[yr (off:=37) (size:=3) (vs:=[l,o,s]) rfl h2 rfl (by rw[List.length_append,hb];rfl)];show some (over _ (37+0) _)=_;rw[y6 hb];exact congrArg some afZ
theorem adZ {cs:LV} (hl:cs.length=40):ue (fun i=>some (i*whZ.length,whZ.length)) (mkz 1 whZ) [(0,.agg cs.toArray)]=some cs:=by
 rw[yr (off:=0) (size:=40) (vs:=cs) rfl (by simp[cellsOf]) hl rfl];show some (over (whZ++[]) 0 cs)=_;rw[u7 (by rw[hl];rfl),List.append_nil]
theorem aX {a b c d e f:Ent} {W A R:List Ent}:(a::b::c::d::e::f::(W++(A++R))).Perm (e::f::a::((W++R++A)++[b,c,d])):=by
 classical
 rw[List.perm_iff_count];intro x;simp only[List.count_cons,List.count_append,List.count_nil];omega
section
variable (p q g h:Nat) (f sec:Int) (ns:Value) (P gl cl n:Nat) (ep cep:Nat) (ah:LN) (pH pV pO pD pE pS:Option Addr) (nH nV nO nD nE nS cH cV cO cD cE cS:Nat)
theorem mG (hah:ah.length=32) (hn:n<16) (hne:ep≠n+1):Fn Tryz.prog 19 [pt P,.agg (bkC ep ah cep (.slice pH nH cH) (.slice pV nV cV) (.slice pO nO cO)).toArray,evV (.slice pD nD cD) (.slice pE nE cE) (.slice pS nS cS)]
  (fun w=>Seg w P 0 (chC p q g h f sec ns (agV gl cl n n))) (Is (.int .i64 4)):=by
 have hT:=vQ p q g h f sec ns (agV gl cl n n) P;obtain⟨V,hV,pp,c',hVs⟩ : ∃ V,agV gl cl n n=V∧∃ pp c',V=.slice pp n c':=⟨_,rfl,by cases n<;>exact⟨_,_,rfl⟩⟩;rw[hV] at hT ⊢;clear hV;subst hVs;have hcv:IntKind.u64.wrap (n:Int)=(n:Int):=by show (n:Int)%18446744073709551616=_;omega
 have hadd:IntKind.u64.wrap ((n:Int)+1)=(n:Int)+1:=by show ((n:Int)+1)%18446744073709551616=_;omega
 have hbk:=y8 (ep:=ep) (cep:=cep) (sD:=.slice pH nH cH) (sV:=.slice pV nV cV) (sO:=.slice pO nO cO) hah;refine Fn.enter Tryz.func19 rfl rfl rfl ?_;intro w hw
 repeat (first|refine WO.does (zm (hs:=hw) (hc:=rfl)) ?_|refine WO.does (zV rfl rfl Om) ?_|refine Tj ?_|intro _|refine WO.acallR (hc:=hT) (hR:=fun wx hm=>hw.mod hm.mod Sm) (k:=?_)|refine Tc ?_|exact Tz)
 rename_i gB gE;refine WC.adraw 10 (k:=?_)
 iterate 10 (first|refine DQ.does (fun s _=>zm (hs:=hw) (hc:=rfl)) Dp.const ?_|refine DQ.does (fun s _=>zr rfl hcv) Dp.const ?_|refine DQ.does (fun s _=>zi rfl rfl hadd) Dp.const ?_|refine DQ.does (fun s _=>yI rfl rfl Om) Dp.const ?_|refine Da ?_|refine Dc ?_)
 refine DQ.anil (k:=?_);intro sx _
 repeat (first|refine Tk ?_|intro _|exact Tz)
 done
end
section
variable (p q g h:Nat) (f sec:Int) (N:LP) (P gN cN gl cl:Nat) (X:List Wh) (A:List Ent) (ep:Nat) (ah:LN) (pH pV pO pD pS:Option Addr) (cH cV cO cD cS:Nat) (HL:List (List Nat)) (VL:List Vt) (OL:List (List Nat)) (T:List (Dd × Dk)) (SH:List Sw)
theorem ej (HdR ChkR:World→Prop) (hd:LN) (hah:ah.length=32) (hdl:hd.length=32) (hn:X.length<16) (hep:ep=X.length+1) (hcl:0<X.length→X.length≤cl∧cl<9223372036854775808) (hX:∀ x∈X,x.ah.length=32)
  (hHd:Fn Tryz.prog 18 [pt P] HdR (Is (.agg (byC hd).toArray)))
  (hCk:Fn Tryz.prog 25 [stV p q g h f sec (AQ gN N.length cN),.agg (byC hd).toArray,.agg (bkC ep ah ep (.slice pH HL.length cH) (.slice pV VL.length cV) (.slice pO OL.length cO)).toArray,evV (.slice pD T.length cD) (.slice none 0 0) (.slice pS SH.length cS)] ChkR (Is (.int .i64 0)))
  (h1:0<HL.length∧HL.length≤1000) (h1b:∀ X∈HL,X.length=32) (h2:0<VL.length∧VL.length≤1000) (h2b:∀ x∈VL,x.S.length=32) (h3:0<OL.length∧OL.length≤1000) (h3b:∀ X∈OL,X.length=32)
  (h4:0<T.length∧T.length≤1000) (h4b:∀ y∈T,dy y.1) (h5:0<SH.length∧SH.length≤1000) (h5b:∀ x∈SH,0<x.P.length∧x.P.length≤1000)
  (hA:∀ w,tc w→(∀ e∈chE p q g h f sec N P gN cN gl cl X++A,e.ok w)→HdR w∧ChkR w∧RdF byC (.slice pH HL.length cH) HL w∧RdF vtC (.slice pV VL.length cV) VL w∧RdF byC (.slice pO OL.length cO) OL w∧EvR ep pD cD T none 0 [] pS cS SH w)
  (h0:0 ∉ (chE p q g h f sec N P gN cN gl cl X++A).map Ent.g) :
  FnL Tryz.prog 19 [pt P,.agg (bkC ep ah ep (.slice pH HL.length cH) (.slice pV VL.length cV) (.slice pO OL.length cO)).toArray,evV (.slice pD T.length cD) (.slice none 0 0) (.slice pS SH.length cS)] (chE p q g h f sec N P gN cN gl cl X++A) tc
   (fun v L=>∃ T',L=T'++A∧v=.int .i64 0∧∃ gl' cl' y,T'=chE p q g h f sec N P gN cN gl' cl' (X++[y])∧WhI y∧WhD y ep ah HL VL OL T SH∧X.length+1≤cl'∧cl' < 9223372036854775808):=by
 have hT:=vQ p q g h f sec (AQ gN N.length cN) (agV gl cl X.length X.length) P;have hW:=aeS ep ah ep pH pV pO pD pS cH cV cO cD cS HL VL OL T SH hah h1 h1b h2 h2b h3 h3b h4 h4b h5 h5b;obtain⟨n,hXn⟩ : ∃ n,X.length=n:=⟨_,rfl⟩;rw[hXn] at hn hep hcl hT ⊢;have hcv:IntKind.u64.wrap (n:Int)=(n:Int):=by show (n:Int)%18446744073709551616=_;omega
 have hadd:IntKind.u64.wrap ((n:Int)+1)=(n:Int)+1:=by show ((n:Int)+1)%18446744073709551616=_;omega
 have hbk:=y8 (ep:=ep) (cep:=ep) (sD:=.slice pH HL.length cH) (sV:=.slice pV VL.length cV) (sO:=.slice pO OL.length cO) hah;refine FnL.enter Tryz.func19 rfl rfl rfl ?_;intro w hw;have hrd:=fun wx (hm:Mod ((chE p q g h f sec N P gN cN gl cl X++A).map Ent.g) w wx) (ho:∀ e∈chE p q g h f sec N P gN cN gl cl X++A,e.ok wx)=>hA wx (hw.mod hm h0) ho;clear hA;obtain⟨V,hV,hVn⟩ : ∃ V,agV gl cl n n=V∧∃ pp c',V=.slice pp n c':=⟨_,rfl,by cases n<;>exact⟨_,_,rfl⟩⟩;have hmem:∀ e∈chE p q g h f sec N P gN cN gl cl X++A,e∈⟨P,136,chC p q g h f sec (AQ gN N.length cN) V⟩::⟨gN,105,N.flatMap z8++mkz (cN - N.length) (vE 0 0)⟩::(rwL 144 gl (X.flatMap whV) (mkz (cl - n) whZ) n++(X.flatMap whE++A)):=fun e he=>by
  unfold chE at he;rw[hXn,hV] at he;simpa only[List.cons_append,List.append_assoc] using he
 refine WC.permL (L':=⟨P,136,chC p q g h f sec (AQ gN N.length cN) V⟩::⟨gN,105,N.flatMap z8++mkz (cN - N.length) (vE 0 0)⟩::(rwL 144 gl (X.flatMap whV) (mkz (cl - n) whZ) n++(X.flatMap whE++A))) (by
  unfold chE;rw[hXn,hV];simp only[List.cons_append,List.append_assoc];exact .refl _) ?_
 generalize hG:(chE p q g h f sec N P gN cN gl cl X++A).map Ent.g=GS at *;obtain⟨pp,c',rfl⟩:=hVn;obtain⟨R,hR⟩ : ∃ R,⟨gN,105,N.flatMap z8++mkz (cN - N.length) (vE 0 0)⟩::(rwL 144 gl (X.flatMap whV) (mkz (cl - n) whZ) n++(X.flatMap whE++A))=R:=⟨_,rfl⟩;rw[hR] at hmem ⊢;rw[hV] at hT
 repeat (first|refine WO.does (zV rfl rfl Om) ?_|refine Tj ?_|intro _|refine WO.acallR (hc:=hT) (hR:=fun wx hm=>Hs.sg hm) (k:=?_)|refine Tc ?_|exact Tz)
 rename_i gB gE;refine WC.adraw 10 (k:=?_)
 iterate 10 (first|refine DQ.does (fun s _=>zr rfl hcv) Dp.const ?_|refine DQ.does (fun s _=>zi rfl rfl hadd) Dp.const ?_|refine DQ.does (fun s _=>zw rfl rfl Om) Dp.const ?_|refine Da ?_|refine Dc ?_)
 refine DQ.anil (k:=?_);intro sx _
 repeat (first|refine Tk ?_|intro _|exact Tz)
 refine WC.adraw 9 (k:=?_)
 iterate 9 (first|refine DQ.does (fun s _=>zt (vs:=stC p q g h f sec (AQ gN N.length cN)) (hc:=rfl)) Dp.const ?_|refine DQ.acallR (hc:=hHd) (hR:=fun wx hm=>(hrd wx hm.mod fun e he=>hm.ok e (by have:=hmem e he;repeat (first|exact this|apply List.mem_cons_of_mem))).1) (k:=?_)|refine DQ.does (fun s _=>zt (vs:=bkC ep ah ep (.slice pH HL.length cH) (.slice pV VL.length cV) (.slice pO OL.length cO)) (hc:=zx hbk) (hl:=hbk)) Dp.const ?_|refine DQ.acallR (hc:=hCk) (hR:=fun wx hm=>(hrd wx hm.mod fun e he=>hm.ok e (by have:=hmem e he;repeat (first|exact this|apply List.mem_cons_of_mem))).2.1) (k:=?_)|refine Da ?_|refine Dc ?_)
 refine DQ.anil (k:=?_);intro sx _
 repeat (first|refine WO.does (zw rfl rfl rfl) ?_|refine Tj ?_|intro _|refine Tc ?_|exact Tz)
 refine WC.mainV [8,9,10,13] [(0,pt P),(1,pt P),(2,pt P),(3,.pointer (some ⟨P,20,none⟩)),(4,.slice pp n c'),(5,.agg (bkC ep ah ep (.slice pH HL.length cH) (.slice pV VL.length cV) (.slice pO OL.length cO)).toArray),(6,evV (.slice pD T.length cD) (.slice none 0 0) (.slice pS SH.length cS)),(7,.agg (whC ep ah ep (.slice pH HL.length cH) (.slice pV VL.length cV) (.slice pO OL.length cO) (.slice pD T.length cD) (.slice none 0 0) (.slice pS SH.length cS)).toArray),(11,pt P),(12,.pointer (some ⟨P,20,none⟩))] Dtt ?_
 refine WT.with [⟨gE,59,[.slice pD T.length cD,.slice none 0 0,.slice pS SH.length cS]⟩,⟨gB,75,bkC ep ah ep (.slice pH HL.length cH) (.slice pV VL.length cV) (.slice pO OL.length cO)⟩,⟨P,136,chC p q g h f sec (AQ gN N.length cN) (.slice pp n c')⟩] Kr
  (Tlv.auto (Tlv.auto (Tlv.auto (Tlv.auto (Tlv.auto (Tlv.d rfl (zt (vs:=bkC ep ah ep (.slice pH HL.length cH) (.slice pV VL.length cV) (.slice pO OL.length cO)) (hc:=zx hbk) (hl:=hbk)) (Tlv.auto (Tlv.d rfl (uL rfl (fill_whole hah rfl)) (Tlv.auto (Tlv.auto Tlv.nil))))))))))
  (fun hc hT=>?_)
 refine WT.one (m:=8) rfl hc hT ?_;refine WO.callsL (hc:=Fn.toL hW) (hp:=.nil) (hR:=fun wx hm=>(hrd wx hm.mod fun e he=>hm.ok e (by have:=hmem e he;repeat (first|exact this|apply List.mem_cons_of_mem))).2.2) (k:=fun v1 N1 hv=>?_);obtain⟨gh,rh,gv,rv,go,ro,gD,rl,gs,rs,T',S',M,rfl,rfl,hT',hS',hSc,hM,hM2⟩:=hv;have hTl:T'.length=T.length:=by have:=congrArg List.length hT';simpa using this
 have hSl:S'.length=SH.length:=by have:=congrArg List.length hS';simpa using this
 obtain⟨y,hy⟩ : ∃ y:Wh,y=⟨ep,ah,HL,VL,OL,T',S',gh,rh,gv,rv,go,ro,gD,rl,gs,rs,M⟩:=⟨_,rfl⟩;have hyV:whC ep ah ep (AQ gh HL.length HL.length) (AQ gv VL.length VL.length) (AQ go OL.length OL.length) (AQ gD T.length T.length) (.slice none 0 0) (AQ gs SH.length SH.length)=whV y:=by
  rw[hy];unfold whV;rw[hTl,hSl]
 have hyE:(⟨gh,70,HL.flatMap byC++mkz rh hzC⟩::⟨gv,140,VL.flatMap vtC++mkz rv vtZ⟩::⟨go,70,OL.flatMap byC++mkz ro hzC⟩::⟨gD,51,T'.flatMap (ddC ep)++mkz rl dzC⟩::⟨gs,53,S'.flatMap swC++mkz rs swZ⟩::M:List Ent)=whE y:=by rw[hy];rfl
 have hyI:WhI y:=by rw[hy];exact⟨hah,hM,hM2⟩
 have hyD:WhD y ep ah HL VL OL T SH:=by rw[hy];exact⟨rfl,rfl,rfl,rfl,rfl,hT',hS'⟩
 have hyl:(whV y).length=40:=by rw[← hyV];exact vw hah
 have hy1:(whV y).all Value.oneCell'=true:=by rw[← hyV];exact ab0 rfl rfl rfl rfl rfl rfl
 have hXl:(X.flatMap whV).length=n*40:=by rw[← hXn];exact yJ fun x hx=>vw (hX x hx)
 rw[hyV,hyE];clear hyV hyE hy;subst hR;refine WO.swap ?_;simp only[List.cons_append,List.append_assoc];refine WO.nil (WX.wt [(50,.agg (whV y).toArray)] ?_);refine WT.one (m:=9) rfl hc hT ?_;refine WO.makes (zh (cs:=whV y) rfl Dtt (adZ hyl)) ?_;intro gS;refine WO.nil (WX.wt [(51,AQ gS 1 1)] ?_);refine WT.one (m:=10) rfl hc hT ?_;refine WO.appR (z:=whZ) (B:=X.flatMap whV) (ys:=whV y) (m:=1) (n:=n) (l:=n+1) (g:=gl) (c:=cl) (L1:=[_,_,_,_,_]) rfl (by rw[hV];rfl) rfl rfl hXl hcl (Rds.own (m:=40) Hs.a (zx hyl)) hyl hy1 Dtt rfl Om Om Dtt Dtt (fun g1 c1 a2 a3=>?_);refine WO.nil (WX.wt [(52,AQ g1 (n+1) c1)] ?_);simp only[List.cons_append,List.nil_append];refine WT.one (m:=13) rfl hc hT ?_;refine WO.stores (zo (vs:=[AQ g1 (n+1) c1]) (cs':=chC p q g h f sec (AQ gN N.length cN) (AQ g1 (n+1) c1))) ?_;refine WO.nil (WX.wt [] ?_);refine WT.fin [13] 5 hc rfl Kr ?_;clear hc hT;refine WX.seq ?_;refine WC.permL (L':=(chE p q g h f sec N P gN cN g1 c1 (X++[y])++A)++[⟨gS,144,whV y⟩,⟨gE,59,[.slice pD T.length cD,.slice none 0 0,.slice pS SH.length cS]⟩,⟨gB,75,bkC ep ah ep (.slice pH HL.length cH) (.slice pV VL.length cV) (.slice pO OL.length cO)⟩]) (by
  have hn1:(X++[y]).length=n+1:=by rw[List.length_append,hXn];rfl
  unfold chE;rw[hn1];simp only[List.flatMap_append,List.flatMap_cons,List.flatMap_nil,List.append_nil];exact aX) ?_
 repeat (first|refine Tk ?_|intro _|exact Tz)
 exact WX.retP_of (N:=chE p q g h f sec N P gN cN g1 c1 (X++[y])++A) (aar rfl (zK rfl)) Lle.left ⟨_,rfl,rfl,g1,c1,y,rfl,hyI,hyD,a3,a2⟩
end
end Sx
end
section
open Go Go.RowKit Go.BigFrame
namespace Sx
end Sx
end
end Go.Proofs.YtiaibpcaloigkaaGreatDoor
