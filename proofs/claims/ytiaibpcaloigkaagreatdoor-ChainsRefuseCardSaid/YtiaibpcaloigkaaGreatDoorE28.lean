/- Part 28 of the proof. -/
import Derived.Test.YtiaibpcaloigkaaGreatDoorE20
set_option linter.unusedSimpArgs false
set_option linter.unusedVariables false
set_option maxHeartbeats 8000000
namespace Go.Proofs.YtiaibpcaloigkaaGreatDoor
section
open Go Go.RowKit Go.BigFrame
namespace Sx
attribute [local irreducible] DQ WC WO WX wd
theorem ul {α:Type} {f:α→List Value} {k:Nat} (hk:∀ x,(f x).length=k):∀ {xs:List α} {i:Nat} {x:α},xs[i]?=some x→cut (xs.flatMap f) (i*k) k=f x
 | [],i,x,h=>by simp at h
 | y::r,0,x,h=>by
  simp at h;subst h;simp[cut,← hk y]
 | y::r,i+1,x,h=>by
  have:=ul hk (xs:=r) (i:=i) (x:=x) (by simpa using h);rw[← this];unfold cut;rw[List.flatMap_cons,show (i+1)*k=(f y).length+i*k by rw[hk,Nat.succ_mul];omega,← List.drop_drop,List.drop_left]
abbrev fdC (p q g h:Nat) (e:Int):List Value:=[.int .u64 ((wd 0 p:Nat):Int),.int .u64 ((wd 1 p:Nat):Int),.int .u64 ((wd 2 p:Nat):Int),.int .u64 ((wd 3 p:Nat):Int),.int .u64 ((wd 0 q:Nat):Int),.int .u64 ((wd 1 q:Nat):Int),.int .u64 ((wd 2 q:Nat):Int),.int .u64 ((wd 3 q:Nat):Int),.int .u64 ((wd 0 g:Nat):Int),.int .u64 ((wd 1 g:Nat):Int),.int .u64 ((wd 2 g:Nat):Int),.int .u64 ((wd 3 g:Nat):Int),.int .u64 ((wd 0 h:Nat):Int),.int .u64 ((wd 1 h:Nat):Int),.int .u64 ((wd 2 h:Nat):Int),.int .u64 ((wd 3 h:Nat):Int),.int .i64 e]
def kE (e e' : Int):Int:=if e=0 then e' else e
section
variable (p q g h gF:Nat)
theorem aco (a:Nat) (e0 e:Int):FnM Tryz.prog 265 [pt gF,zj a,.int .i64 e] gF 336 (fdC p q g h e0) (fdC p q g h (kE e0 e)) Tr (zj a):=by
 refine FnM.enter Tryz.func265 rfl rfl rfl ?_;intro w hw
 by_cases he:e0=0
 ·rw[show kE e0 e=e from if_pos he]
  repeat (first|refine Tj ?_|intro _|refine WO.does (zD rfl rfl he) ?_|refine Tc ?_|exact Tz)
  exact WX.retM_of (acX rfl (by first|exact zO rfl|exact v8)) Hs.a
 ·rw[show kE e0 e=e0 from if_neg he]
  repeat (first|refine Tj ?_|intro _|refine WO.does (zT rfl rfl he) ?_|refine Tc ?_|exact Tz)
  exact WX.retM_of (acX rfl (by first|exact zO rfl|exact v8)) Hs.a
theorem kf (a b:Nat) (e0:Int) (ha:a<ze) (hb:b<ze) (hq:q<ze):FnM Tryz.prog 229 [pt gF,zj a,zj b] gF 336 (fdC p q g h e0) (fdC p q g h (kE e0 (okE (zQ a b q)))) Tr (zj (okV (zQ a b q) ((a+b)%q))):=by
 have hO:=mg p q g h a b ha hb hq;have hK:=aco p q g h gF (okV (zQ a b q) ((a+b)%q)) e0 (okE (zQ a b q));simp only[rE] at hO;generalize okV (zQ a b q) ((a+b)%q)=R at *;generalize okE (zQ a b q)=E at *;refine FnM.enter Tryz.func229 rfl rfl rfl ?_;intro w hw
 repeat (first|refine Tk ?_|intro _|exact Tz)
 refine WC.adraw 10 (k:=?_)
 repeat (first|refine Da ?_|refine DQ.acall (hc:=hO) (k:=?_)|refine Dc ?_)
 refine DQ.anil (k:=?_);intro sx _
 repeat (first|refine Tj ?_|intro _|refine WO.callM rfl hK (by repeat (first|exact Rp.here|apply Rp.there)) (fun _ _=>trivial) Dt ?_ rfl rfl|refine Tc ?_|exact Tz)
 exact WX.retM_of (acX rfl (by first|exact zO rfl|exact v8)) Hs.a
theorem aL (a b:Nat) (e0:Int) (ha:a<ze) (hb:b<ze) (hq:q<ze):FnM Tryz.prog 230 [pt gF,zj a,zj b] gF 336 (fdC p q g h e0) (fdC p q g h (kE e0 (okE (zQ a b q)))) Tr (zj (okV (zQ a b q) (a*b%q))):=by
 have hO:=jJ p q g h a b ha hb hq;have hK:=aco p q g h gF (okV (zQ a b q) (a*b%q)) e0 (okE (zQ a b q));simp only[rE] at hO;generalize okV (zQ a b q) (a*b%q)=R at *;generalize okE (zQ a b q)=E at *;refine FnM.enter Tryz.func230 rfl rfl rfl ?_;intro w hw
 repeat (first|refine Tk ?_|intro _|exact Tz)
 refine WC.adraw 10 (k:=?_)
 repeat (first|refine Da ?_|refine DQ.acall (hc:=hO) (k:=?_)|refine Dc ?_)
 refine DQ.anil (k:=?_);intro sx _
 repeat (first|refine Tj ?_|intro _|refine WO.callM rfl hK (by repeat (first|exact Rp.here|apply Rp.there)) (fun _ _=>trivial) Dt ?_ rfl rfl|refine Tc ?_|exact Tz)
 exact WX.retM_of (acX rfl (by first|exact zO rfl|exact v8)) Hs.a
def gaS (q:Nat) (l:LN) (a:Nat) (e:Int):Nat × Int:=l.foldl (fun s x=>(okV (zQ s.1 x q) ((s.1+x)%q),kE s.2 (okE (zQ s.1 x q)))) (a,e)
theorem k8 (q:Nat) (l:LN) (x a:Nat) (e:Int):gaS q (l++[x]) a e=(okV (zQ (gaS q l a e).1 x q) (((gaS q l a e).1+x)%q),kE (gaS q l a e).2 (okE (zQ (gaS q l a e).1 x q))):=by
 unfold gaS;rw[List.foldl_append];rfl
theorem agn {q:Nat} {l:LN} {a:Nat} {e:Int} (hq:q<ze) (ha:a<ze):(gaS q l a e).1<ze:=by
 rcases List.eq_nil_or_concat l with rfl|⟨l,x,rfl⟩
 ·exact ha
 ·rw[List.concat_eq_append,k8];cases h:zQ (gaS q l a e).1 x q with
  | false=>exact zF
  | true=>exact Nat.lt_trans (Nat.mod_lt _ (by have:=(zS h).1;omega)) hq
theorem aN (l:LN) (pt:Option Addr) (c a:Nat) (e0:Int) (ha:a<ze) (hl:∀ x∈l,x<ze) (hn:l.length≤1099511627776) (hq:q<ze) :
  FnM Tryz.prog 254 [zj a,.slice pt l.length c,.func (.func 229) #[Sx.pt gF] #[]] gF 336 (fdC p q g h e0) (fdC p q g h (gaS q l a e0).2) (fun w=>RdF zc (.slice pt l.length c) l w∧∀ b o,pt=some ⟨b,o,none⟩→l≠[]→b ∉ [gF]) (zj (gaS q l a e0).1):=by
 have hP:=fun u x e (hu:u<ze) (hx:x<ze)=>(kf p q g h gF u x e hu hx hq).toL;refine FnM.enter Tryz.func254 rfl rfl rfl ?_;intro w hw;obtain⟨⟨pt',c',e,hpc⟩,hout⟩:=hw;cases e
 repeat (first|refine Tk ?_|intro _|exact Tz)
 rename_i g3 g6
 refine WC.loopI (σ:=Nat) (fun i=>i≤l.length) (fun i=>[(2,.func (.func 229) #[Sx.pt gF] #[]),(3,Sx.pt g3),(6,Sx.pt g6),(9,.slice pt l.length c),(10,.int .i64 (l.length:Int)),(11,.int .i64 (i:Int))])
  (fun i=>[⟨g6,24,zc 0⟩,⟨g3,24,zc (gaS q (l.take i) a e0).1⟩,⟨gF,336,fdC p q g h (gaS q (l.take i) a e0).2⟩]) (fun i=>l.length - i) 0 (fun i hi=>?_) (Nat.zero_le _)
 try dsimp only at hi ⊢
 by_cases hlt:i<l.length
 ·obtain⟨x,hx⟩ : ∃ x,l[i]?=some x:=⟨_,List.getElem?_eq_getElem hlt⟩
  rcases hpc with ⟨_,h0⟩|⟨b,o,rfl,hs⟩
  ·rw[h0] at hlt;simp at hlt
  have hb:b ∉ [gF]:=hout b o rfl (by rintro rfl;simp at hlt);have hadd2:IntKind.i64.wrap ((i:Int)+1)=((i+1:Nat):Int):=zl Om Om Om;have hcx:cut (l.flatMap zc) (o+i*4 - o) 4=zc x:=by rw[Nat.add_sub_cancel_left];exact ul (f:=zc) (k:=4) (fun _=>rfl) hx
  have hPx:=hP (gaS q (l.take i) a e0).1 x (gaS q (l.take i) a e0).2 (agn hq ha) (hl x (List.mem_of_getElem? hx));have hst:=k8 q (l.take i) x a e0;rw[show l.take i++[x]=l.take (i+1) by rw[List.take_add_one,hx];rfl] at hst;rw[show okV (zQ (gaS q (l.take i) a e0).1 x q) (((gaS q (l.take i) a e0).1+x)%q)=(gaS q (l.take (i+1)) a e0).1 by rw[hst],show kE (gaS q (l.take i) a e0).2 (okE (zQ (gaS q (l.take i) a e0).1 x q))=(gaS q (l.take (i+1)) a e0).2 by rw[hst]] at hPx;clear hst hP hl
  repeat (first|refine Tk ?_|intro _|exact Tz)
  refine WC.dT rfl Om ?_
  repeat (first|refine Tj ?_|intro _|refine WO.does (zb (o':=o+i*4) rfl rfl hlt rfl) ?_|refine WO.does (zm (vs:=zc x) (hs:=hs) (hle:=Nat.le_add_right _ _) (hb:=hb) (hc:=hcx)) ?_|refine Tc ?_|exact Tz)
  refine WO.callsLV hPx rfl rfl rfl (Pks.cons (Pk.there (Pk.there (Pk.there Pk.here))) Pks.nil) (fun _ _=>trivial) (fun v N hv=>?_);obtain⟨rfl,rfl⟩:=hv;simp only[List.cons_append,List.nil_append]
  repeat (first|refine Tj ?_|intro _|refine WO.does (zi rfl rfl hadd2) ?_|refine Tc ?_|exact Tz)
  exact WX.metI (i+1) (hs:=⟨by show i+1≤l.length;omega,by show l.length - (i+1)<l.length - i;omega⟩)
 ·have hi2:i=l.length:=by omega
  subst hi2;rw[List.take_length]
  repeat (first|refine Tk ?_|intro _|exact Tz)
  refine WC.dF rfl Om ?_
  repeat (first|refine Tk ?_|intro _|exact Tz)
  exact WX.retM_of (acX rfl (by first|exact zO rfl|exact v8)) Hs.a
end
theorem ku (q:Nat):∀ (l:LN) (a:Nat),(gaS q l a 1).2=1
 | [],_=>rfl
 | x::l,a=>by
  show (gaS q l _ (kE 1 _)).2=1;rw[show kE 1 (okE (zQ a x q))=1 from rfl];exact ku q l _
theorem ab4 {q:Nat} (h1:1<q):∀ (l:LN) (a:Nat),a<q→(gaS q l a 0).2=if l.all (fun x=>decide (x<q))=true then 0 else 1
 | [],_,_=>rfl
 | x::l,a,ha=>by
  show (gaS q l (okV (zQ a x q) ((a+x)%q)) (kE 0 (okE (zQ a x q)))).2=_;rw[show kE 0 (okE (zQ a x q))=okE (zQ a x q) from rfl]
  by_cases hx:x<q
  ·rw[show zQ a x q=true by simp[zQ,h1,ha,hx]];show (gaS q l ((a+x)%q) 0).2=_;rw[ab4 h1 l _ (Nat.mod_lt _ Om)];simp[hx]
  ·rw[show zQ a x q=false by simp[zQ,hx]];show (gaS q l 0 1).2=_;rw[ku];simp[hx]
theorem agj (q:Nat) (l:LN):decide (kE (gaS q l 0 0).2 (okE (zQ 0 0 q))=0)=uz q l:=by
 unfold uz
 by_cases h1:1<q
 ·rw[ab4 h1 l 0 Om,show zQ 0 0 q=true by simp[zQ,h1];omega,decide_eq_true h1,Bool.true_and];cases l.all (fun x=>decide (x<q))<;>rfl
 ·rw[decide_eq_false h1,Bool.false_and,show zQ 0 0 q=false by simp[zQ,h1]];cases l with
  | nil=>rfl
  | cons x l =>
   have:(gaS q (x::l) 0 0).2=1:=by
    show (gaS q l _ (kE 0 (okE (zQ 0 x q)))).2=1;rw[show zQ 0 x q=false by simp[zQ,h1]];exact ku q l _
   rw[this];rfl
section
variable (p q g h:Nat)
theorem jy (l:LN) (pt:Option Addr) (c:Nat) (hl:∀ x∈l,x<ze) (hn:l.length≤1099511627776) (hq:q<ze) :
  Fn Tryz.prog 227 [vY p q g h,.slice pt l.length c] (RdF zc (.slice pt l.length c) l) (Is (.bool (uz q l))):=by
 have hG:=fun gF=>aN p q g h gF l pt c 0 0 zF hl hn hq;have hP:=fun gF=>kf p q g h gF 0 0 (gaS q l 0 0).2 zF zF hq;have hm:=agj q l;rw[← hm];generalize (gaS q l 0 0).2=E at *;generalize (gaS q l 0 0).1=A at *;generalize okV (zQ 0 0 q) ((0+0)%q)=R at *;generalize kE E (okE (zQ 0 0 q))=E2 at *;refine Fn.enter Tryz.func227 rfl rfl rfl ?_;intro w hw
 repeat (first|refine Tk ?_|intro _|exact Tz)
 rename_i g2 gF;refine WO.mine (fun hmn=>?_);have hgF:w.heap.size≤gF:=(hmn _ (List.Mem.head _)).resolve_right Sm;refine WO.callM rfl (hG gF) (by repeat (first|exact Rp.here|apply Rp.there)) (fun w1 hm1=>⟨hw.mod hm1.mod,fun b o e hne=>by
  subst e;have:=RdF.lt (k:=3) (f:=zc) (fun _=>rfl) hw hne;simp;omega⟩) Dt ?_ rfl rfl
 repeat (first|refine Tj ?_|intro _|refine WO.callM rfl (hP gF) (by repeat (first|exact Rp.here|apply Rp.there)) (fun _ _=>trivial) Dt ?_ rfl rfl|refine Tc ?_|exact Tz)
 done
end
end Sx
end
end Go.Proofs.YtiaibpcaloigkaaGreatDoor
