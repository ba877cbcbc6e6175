/- Part 18 of the proof: SyB, SxW, SxX -/
import Derived.Test.YtmhligfnchegdaaGreatDoorM17
import Derived.Test.YtmhligfnchegdaaGreatDoorM11
import Derived.RangeFuncNested
import Derived.OrdersIn
import Derived.TacticsIn
set_option linter.unusedSimpArgs false
set_option linter.unusedVariables false
namespace Go.Proofs.YtmhligfnchegdaaGreatDoor
open Go Go.RowKit Go.BigFrame
namespace Sx
def RdF {α:Type} (f:α→List Value) (v:Value) (xs:List α) (w:World):Prop :=
  ∃ pt c,v=.slice pt xs.length c∧((pt=none∧xs=[])∨∃ b o,pt=some ⟨b,o,none⟩∧Seg w b o (xs.flatMap f))
theorem RdF.mod {α:Type} {f:α→List Value} {v:Value} {xs:List α} {w w' : World} (h:RdF f v xs w) (hm:Mod [] w w'):RdF f v xs w':=by
  obtain⟨pt,c,e,h⟩:=h
  exact⟨pt,c,e,h.imp id (fun ⟨b,o,e2,hs⟩=>⟨b,o,e2,hs.mod hm (by simp)⟩)⟩
theorem RdF.seg {α:Type} {f:α→List Value} {xs:List α} {w:World} {b o c:Nat} {r:List Value} (h:Seg w b o (xs.flatMap f++r)):RdF f (.slice (some ⟨b,o,none⟩) xs.length c) xs w :=
  ⟨_,c,rfl,.inr ⟨b,o,rfl,fun i v hv=>h i v (by rw[List.getElem?_append_left (by rcases Nat.lt_or_ge i (xs.flatMap f).length with h1|h1;exact h1;rw[List.getElem?_eq_none h1] at hv;cases hv)];exact hv)⟩⟩
theorem RdF.lt {α:Type} {f:α→List Value} {k:Nat} (hk:∀ x,(f x).length=k+1) {xs:List α} {w:World} {b o n c:Nat} (h:RdF f (.slice (some ⟨b,o,none⟩) n c) xs w) (hne:xs≠[]):b<w.heap.size:=by
  obtain⟨pt,c',e,h⟩:=h
  cases e
  rcases h with ⟨h1,_⟩|⟨b',o',e2,hs⟩
  · cases h1
  · cases e2
    cases xs with
    | nil=>exact absurd rfl hne
    | cons x r =>
      have hx:=hk x
      cases hfx:f x with
      | nil=>rw[hfx] at hx;cases hx
      | cons v vs =>
        exact cell_lt (hs 0 v (by simp[hfx]))
def NewC (t n c:Nat) (cs:List Value):Value→List Ent→Prop:=fun v N=>∃ g,v=.slice (some ⟨g,0,none⟩) n c∧N=[⟨g,t,cs⟩]
theorem Fn.exC {P:Program} {f:FuncId} {fs:List Value} {R:World→Prop} {t n c:Nat} {cs:List Value} (h:Fn P f fs R (NewC t n c cs)) :
    Fn P f fs R (Ex (fun x=>.slice (some ⟨x 0,0,none⟩) n c) (fun x=>[⟨x 0,t,cs⟩]) (fun _=>True)) :=
  Fn.weak h (fun _ h=>h) (fun v N ⟨g,e1,e2⟩=>⟨fun _=>g,e1,e2,trivial⟩)
section
variable {P:Program} {w0:World} {gs:List Nat} {n:Nat} {ops:List Oper} {Q:Exit→Act→World→Prop} {K:List (Nat × Value)} {L:List Ent} {rest:List Oper}
variable {d:Nat} {op:Op} {ty:TypeId} {pos:String} {after:Array Edge} {gd:Option (Nat × Bool)}
theorem WO.acallC {f:FuncId} [Cal P f] {xs:Array Operand} {ats:Array TypeId} {fs:List Value} {R:World→Prop} {t m c:Nat} {cs:List Value} (hc:Fn P f fs R (NewC t m c cs)) (hR:∀ w,Mr w0 gs L w→R w)
    (k:∀ g,WO P w0 gs n ops Q ((d,.slice (some ⟨g,0,none⟩) m c)::K) (⟨g,t,cs⟩::L) rest) (ha:evs K xs.toList=some fs:=by rfl) (hd:Nat.blt d n=true:=by rfl) (hw:wk ops K gd=some true:=by rfl) :
    WO P w0 gs n ops Q K L (⟨some d,.call { callee:=.value (.func f),args:=xs,argTypes:=ats },ty,pos,after,gd⟩::rest) :=
  WO.calls (fs:=[]) (cs:=[]) hc rfl ha (by simp) hR (fun u N ⟨g,e1,e2⟩=>by subst e1;subst e2;exact k g) hd hw
theorem WX.retC {fn:Func} {r:ResultVar} {g t m c:Nat} {cs:List Value} {L' : List Ent} (hfn:fn.results=#[r]:=by rfl) (hr:Rv P w0 [] K L r (.slice (some ⟨g,0,none⟩) m c):=by exact rv_tmp rfl) (hN:Pk L g t cs L':=by (repeat (first|exact Pk.here|apply Pk.there))) :
    WX w0 [] n .ret (bodyPost P fn (FnPost w0 (NewC t m c cs))) K L:=WX.ret1 hfn hr [⟨g,t,cs⟩] ⟨cs,L',hN,rfl,trivial⟩ ⟨g,rfl,rfl⟩
end
section
open Kp
variable {P:Program} {w0:World} {gs:List Nat} {n:Nat} {fl:List Nat} {Q:Exit→Act→World→Prop} {ops:List Oper} {L0:List Ent}
variable {tail rest:List Oper} {i:Nat} {C:Nums→Prop} {K:Nums→List (Nat × Value)} {N:Nums→List (Nat × Ent)}
variable {d:Nat} {op:Op} {ty:TypeId} {pos:String} {after:Array Edge} {gd:Option (Nat × Bool)}
theorem DQ.acallC {f:FuncId} [Cal P f] {xs:Array Operand} {ats:Array TypeId} {vs:List Value} {Rq:World→Prop} {t m c:Nat} {cs:List Value} (hc:Fn P f vs Rq (NewC t m c cs)) (hR:∀ w,Mr w0 gs L0 w→Rq w)
    (k:DQ P w0 gs n fl Q ops L0 tail (i+1) rest (fun s=>C s∧True) (fun s=>(d,.slice (some ⟨s i 0,0,none⟩) m c)::K s) (fun s=>(i,⟨s i 0,t,cs⟩)::N s)) (ha:∀ s,evs (K s) xs.toList=some vs:=by (intro s;rfl))
    (hfl:fl.contains i=false:=by rfl) (hw:∀ s,wk ops (K s) gd=some true:=by intro _;rfl) (hd:Nat.blt d n=true:=by rfl) :
    DQ P w0 gs n fl Q ops L0 tail i (⟨some d,.call { callee:=.value (.func f),args:=xs,argTypes:=ats },ty,pos,after,gd⟩::rest) C K N :=
  DQ.callsE (fs:=fun _=>[]) (cs:=fun _=>[]) (R:=fun _=>Rq) (vf:=fun _ x=>.slice (some ⟨x 0,0,none⟩) m c) (Nf:=fun _ x=>[⟨x 0,t,cs⟩]) (S:=fun _ _=>True) (fun _=>[]) (fun _=>.nil)
    (fun _=>⟨fun _=>0,trivial⟩) (fun _ _=>hc.exC) (fun _=>rfl) ha (fun _=>by simp) (fun _ _ w h=>hR w h) Dp.const Dp.const Dp.const k hfl hw hd
theorem DQ.acallM {f:FuncId} [Cal P f] {xs:Array Operand} {ats:Array TypeId} {vs:List Value} {Rq:World→Prop} {v:Value} (hc:Fn P f vs Rq (Is v)) (hR:∀ w,Mr w0 gs L0 w→Rq w)
    (k:DQ P w0 gs n fl Q ops L0 tail (i+1) rest C (fun s=>(d,v)::K s) N) (ha:∀ s,evs (K s) xs.toList=some vs:=by (intro s;rfl))
    (hfl:fl.contains i=false:=by rfl) (hw:∀ s,wk ops (K s) gd=some true:=by intro _;rfl) (hd:Nat.blt d n=true:=by rfl) :
    DQ P w0 gs n fl Q ops L0 tail i (⟨some d,.call { callee:=.value (.func f),args:=xs,argTypes:=ats },ty,pos,after,gd⟩::rest) C K N :=
  DQ.callE (v:=fun _=>v) (fun _=>[]) (fun _=>.nil) (fun _ _=>hc) ha (fun _ _ w h=>hR w h) Dp.const k hfl hw hd
end
theorem flat_length {α:Type} {f:α→List Value} {k:Nat} (hk:∀ x,(f x).length=k):∀ xs:List α,(xs.flatMap f).length=xs.length*k
  | []=>by simp
  | x::r=>by simp[hk,flat_length hk r,Nat.add_mul];omega
theorem mkz_drop {z:List Value} (m:Nat):(mkz (m+1) z).drop z.length=mkz m z:=by
  unfold mkz
  rw[List.replicate_succ,List.flatten_cons,List.drop_left]
theorem over_twin {α:Type} {f:α→List Value} {xs:List α} {i m k:Nat} {x:α} {z:List Value} (hk:∀ x,(f x).length=k) (hz:z.length=k) (hx:xs[i]?=some x) (hm:0<m) :
    over ((xs.take i).flatMap f++mkz m z) (i*z.length) (f x)=(xs.take (i+1)).flatMap f++mkz (m - 1) z:=by
  have hi:i<xs.length:=by
    rcases Nat.lt_or_ge i xs.length with h|h
    · exact h
    · rw[List.getElem?_eq_none h] at hx;cases hx
  have hl:((xs.take i).flatMap f).length=i*z.length:=by
    rw[flat_length hk,List.length_take,hz,Nat.min_eq_left (by omega)]
  have e:=over_end (xs:=(xs.take i).flatMap f) (r:=mkz m z) (ys:=f x)
  rw[hl] at e
  rw[e,List.take_add_one,hx]
  obtain⟨m',rfl⟩ : ∃ m',m=m' + 1:=⟨m - 1,by omega⟩
  have hd:=mkz_drop (z:=z) m'
  rw[show z.length=(f x).length by rw[hk,hz]] at hd
  rw[hd]
  simp
theorem over_spare {α:Type} {f:α→List Value} {xs:List α} {k:Nat} {z s:List Value} (hk:∀ x,(f x).length=k) (hz:z.length=k) (hs:s.length=k) :
    over (xs.flatMap f++mkz 1 z) (xs.length*z.length) s=xs.flatMap f++s:=by
  have hl:(xs.flatMap f).length=xs.length*z.length:=by rw[flat_length hk,hz]
  have e:=over_end (xs:=xs.flatMap f) (r:=mkz 1 z) (ys:=s)
  rw[hl] at e
  rw[e]
  have:(mkz 1 z).drop s.length=[]:=by
    apply List.drop_of_length_le
    rw[mkz_length,hs,hz];omega
  rw[this,List.append_nil]
theorem cut_flatS {α:Type} {f:α→List Value} {k:Nat} {xs:List α} {r:List Value}:cut (xs.flatMap f++r) (xs.flatMap f).length r.length=r:=by
  unfold cut
  rw[List.drop_left,List.take_of_length_le (Nat.le_refl _)]
end Sx
end Go.Proofs.YtmhligfnchegdaaGreatDoor
namespace Go.Proofs.YtmhligfnchegdaaGreatDoor
open Go Go.RowKit Go.BigFrame
namespace Sx
def Qk (k:Act→World→Prop) (Q:Exit→Act→World→Prop):Exit→Act→World→Prop
  | .normal,a,w=>k a w
  | e,a,w=>Q e a w
theorem Qk.out {k:Act→World→Prop} {Q:Exit→Act→World→Prop} (h:LetsOut (Qk k Q)):LetsOut Q:=h
theorem wp_Qk {P:Program} {o:Oper} {a:Act} {w:World} {k:Act→World→Prop} {Q:Exit→Act→World→Prop} (h:o.wp P a w (fun a w=>Qk k Q .normal a w) (Qk k Q)):o.wp P a w k Q:=by
  unfold Oper.wp at *
  generalize (execOp a.eval o).run P w=r at *
  cases r with
  | ok n w' =>
    cases n<;>simp only[Oper.upon] at h ⊢<;>first|exact h|exact Calls.mono h (fun e w'' he=>by cases e<;>first|exact he|exact Qk.out he)
  | halt x w'=>cases x<;>simp only[Oper.upon] at h ⊢<;>exact h
theorem wpOp_Qk {P:Program} {ops:Array Oper} {i:Nat} {o:Oper} {a:Act} {w:World} {k:Act→World→Prop} {Q:Exit→Act→World→Prop} (ho:ops[i]?=some o) (h:wpList P ops (Qk k Q) [o] a w):wpOp P ops Q i k a w:=by
  unfold wpOp
  rw[ho]
  unfold wpList at h
  split at h
  · rename_i hw
    simp only[hw,if_true]
    exact h.imp (fun h=>wp_Qk h) (fun h=>⟨h.1,Qk.out h.2⟩)
  · rename_i hw
    simp only[hw]
    exact h
section
variable (P:Program) (w0:World) (gs:List Nat) (n:Nat) (ops:List Oper) (Q:Exit→Act→World→Prop) (K:List (Nat × Value)) (L:List Ent)
def WA (S:List Bool) (f:Nat):Prop:=∀ a w,a.defers=[]→a.tmps.size=n→Kn K a→Me w0 gs L w→wpAny P .any ops.toArray Q f S.toArray a w
def Each (S:List Bool) (f:Nat):List Nat→Prop
  | []=>True
  | i::r=>(∃ o,nth ops i=some o∧WO P w0 gs n ops (Qk (wpAny P .any ops.toArray Q f (S.set i true).toArray) Q) K L [o])∧Each S f r
end
section
variable {P:Program} {w0:World} {gs:List Nat} {n:Nat} {ops:List Oper} {Q:Exit→Act→World→Prop} {K:List (Nat × Value)} {L:List Ent}
theorem Each.at {S:List Bool} {f:Nat}:∀ {rs:List Nat},Each P w0 gs n ops Q K L S f rs→∀ i∈rs,∃ o,nth ops i=some o∧WO P w0 gs n ops (Qk (wpAny P .any ops.toArray Q f (S.set i true).toArray) Q) K L [o]
  | i::r,h,j,hj=>by
    rcases List.mem_cons.1 hj with rfl|hj
    · exact h.1
    · exact Each.at h.2 j hj
theorem WA.step {S:List Bool} {f:Nat} (rs:List Nat) (k:Each P w0 gs n ops Q K L S f rs) (hr:Region.ready .any ops.toArray S.toArray=rs:=by decide +kernel) (hne:rs≠[]:=by decide):WA P w0 gs n ops Q K L S (f+1):=by
  intro a w h1 h2 h3 h4
  refine⟨fun h0=>absurd (hr.symm.trans h0) hne,fun i hi=>?_⟩
  rw[hr] at hi
  obtain⟨o,ho,hk⟩:=k.at i hi
  have:=wpOp_Qk (k:=wpAny P .any ops.toArray Q f (S.set i true).toArray) (Q:=Q) (ops:=ops.toArray) (i:=i) (o:=o) (P:=P) (by simpa [nth_eq] using ho) (hk a w h1 h2 h3 h4)
  simpa using this
theorem WA.done {S:List Bool} (k:WX w0 gs n .normal Q K L) (hr:Region.ready .any ops.toArray S.toArray=[]:=by decide +kernel):WA P w0 gs n ops Q K L S 0:=fun a w h1 h2 h3 h4=>⟨hr,k a w h1 h2 h3 h4⟩
theorem Each.nil {S:List Bool} {f:Nat}:Each P w0 gs n ops Q K L S f []:=trivial
theorem Each.cons {S:List Bool} {f i:Nat} {r:List Nat} {o:Oper} (k:WO P w0 gs n ops (Qk (wpAny P .any ops.toArray Q f (S.set i true).toArray) Q) K L [o]) (kr:Each P w0 gs n ops Q K L S f r) (ho:nth ops i=some o:=by rfl):Each P w0 gs n ops Q K L S f (i::r):=⟨⟨o,ho,k⟩,kr⟩
theorem WX.wa {S S' : List Bool} {f i:Nat} {Q' : Exit→Act→World→Prop} (k:WA P w0 gs n ops Q K L S' f) (hS:S.set i true=S':=by rfl):WX w0 gs n .normal (Qk (wpAny P .any ops.toArray Q f (S.set i true).toArray) Q') K L:=by
  subst hS
  exact k
theorem WA.less {S:List Bool} {f:Nat} (K' : List (Nat × Value)) (L' : List Ent) (k:WA P w0 gs n ops Q K' L' S f)
    (hk:Kle K' K:=by (repeat (first|exact Kle.nil|refine Kle.cons rfl rfl ?_)))
    (hl:Lle L' L:=by (repeat (first|exact Lle.nil|refine Lle.cons (by repeat (first|exact Pk.here|apply Pk.there)) rfl ?_))):WA P w0 gs n ops Q K L S f:=fun a w h1 h2 h3 h4=>k a w h1 h2 (hk.kn h3) (hl.me h4)
theorem Me.drawn {w:World} {d:Nat} (h:Me w0 gs L w):Me w0 gs L { w with drawn:=d } :=
  ⟨⟨h.mod.os,h.mod.tape,h.mod.output,h.mod.size,h.mod.block⟩,h.ok,h.mine,h.nodup⟩
theorem WC.all {id:Nat} {l:List Oper} [Mix P] (k:WA P w0 gs n l Q K L (List.replicate l.length false) l.length):WC P w0 gs n (.region id l.toArray true) Q K L:=by
  intro a w h1 h2 h3 h4
  refine wp_region_any Mix.out ?_
  have:=k a { w with drawn:=w.drawn+1 } h1 h2 h3 h4.drawn
  simpa using this
theorem WC.allA {id:Nat} {l:List Oper} [Mix P] (k:∀ A:List (Nat × Value)→List Ent→List Bool→Nat→Prop,(∀ K L S f,A K L S f↔WA P w0 gs n l Q K L S f)→A K L (List.replicate l.length false) l.length):WC P w0 gs n (.region id l.toArray true) Q K L :=
  WC.all ((k _ (fun _ _ _ _=>Iff.rfl)))
end
def FnI (P:Program) (f:FuncId) (args:List Value) (g t:Nat) (C:List Value→Prop) (R:World→Prop) (v:Value):Prop :=
  ∀ w cs,C cs→(⟨g,t,cs⟩ : Ent).ok w→R w→Calls P f args.toArray w (fun e w'=>e=.returned v∧Mod [g] w w'∧∃ cs',C cs'∧(⟨g,t,cs'⟩ : Ent).ok w')
def IPost (w:World) (g t:Nat) (C:List Value→Prop) (v:Value):Ending→World→Prop:=fun e w'=>e=.returned v∧Mod [g] w w'∧∃ cs',C cs'∧(⟨g,t,cs'⟩ : Ent).ok w'
theorem FnI.enter {P:Program} {n:Nat} {f:FuncId} {fn:Func} {c:Code} {args:List Value} {g t:Nat} {C:List Value→Prop} {R:World→Prop} {v:Value} (hf:P.funcs[f]?=some fn) (hb:fn.body=some c) (hn:fn.ntmps=n) (hle:Nat.ble args.length n=true)
    (k:∀ w cs,C cs→R w→WC P w [g] n c (bodyPost P fn (IPost w g t C v)) (kin args 0) [⟨g,t,cs⟩]):FnI P f args g t C R v:=by
  intro w cs hC hok hw
  refine calls_of_wp hf hb ?_
  have hle' : args.length≤n:=by simpa using hle
  refine k w cs hC hw _ w rfl (by simp[hn];omega) (fun t v hv=>?_) ⟨.refl _ _,by simpa using hok,by simp,by simp⟩
  obtain⟨j,h1,h2⟩:=kin_spec args 0 t v hv
  subst h1
  have hj:j<args.length:=by
    rcases Nat.lt_or_ge j args.length with h|h
    · exact h
    · rw[List.getElem?_eq_none h] at h2;cases h2
  simp only[Nat.zero_add]
  rw[Array.getElem?_append_left (by simpa using hj)]
  simpa using h2
section
variable {P:Program} {w0:World} {gs:List Nat} {n:Nat} {ops:List Oper} {Q:Exit→Act→World→Prop} {K:List (Nat × Value)} {L:List Ent} {rest:List Oper}
variable {d:Nat} {op:Op} {ty:TypeId} {pos:String} {after:Array Edge} {gd:Option (Nat × Bool)}
theorem WO.callI {f:FuncId} [Cal P f] {x:Operand} {xs:Array Operand} {ats:Array TypeId} {aq fs ks aq' : List Value} {g t:Nat} {C:List Value→Prop} {cs:List Value} {L2:List Ent} {R:World→Prop} {v:Value} (hc:FnI P f aq' g t C R v) (hx:ev K x=some (.func (.func f) fs.toArray ks.toArray))
    (ha:evs K xs.toList=some aq) (hh:fs++aq++ks=aq') (hp:Pk L g t cs L2) (hC:C cs) (hR:∀ w,Me w0 gs L w→R w) (ht:t≠0)
    (k:∀ cs',C cs'→WO P w0 gs n ops Q ((d,v)::K) (⟨g,t,cs'⟩::L2) rest) (hd:Nat.blt d n=true) (hw:wk ops K gd=some true) :
    WO P w0 gs n ops Q K L (⟨some d,.call { callee:=.value x,args:=xs,argTypes:=ats },ty,pos,after,gd⟩::rest):=by
  subst hh
  intro a w hdf hsz hk hme
  refine wpList_step fun F hF=>?_
  rw[if_pos (wk_spec (o:=⟨some d,.call { callee:=.value x,args:=xs,argTypes:=ats },ty,pos,after,gd⟩) hk hw)]
  have hd' : d<n:=by simpa [Nat.blt_eq] using hd
  unfold Oper.wp
  rw[run_call hk hx ha,Oper.upon_enter]
  have hme2:=hme.perm hp.perm
  refine (hc w cs hC (hme2.ok _ (by simp)) (hR w hme)).mono ?_
  rintro e w' ⟨rfl,hm,cs',hC',hok⟩
  exact hF _ _ (k cs' hC' _ _ (by rw[put_defers];exact hdf) (by rw[put_size];exact hsz) (hk.put (by omega) v) (hme2.callM Rp.here hm hok ht))
theorem WX.retI {fn:Func} {g t:Nat} {C:List Value→Prop} {cs:List Value} {v:Value} (hr:∀ a w,Kn K a→Me w0 [g] L w→(results fn a.tmps).run P w=.ok v w) (hN:Hs L g t cs) (hC:C cs):WX w0 [g] n .ret (bodyPost P fn (IPost w0 g t C v)) K L:=fun a w h1 _ h3 h4 =>
  ⟨h1,v,hr a w h3 h4,rfl,h4.mod,cs,hC,h4.ok _ hN.mem⟩
end
end Sx
end Go.Proofs.YtmhligfnchegdaaGreatDoor
namespace Go.Proofs.YtmhligfnchegdaaGreatDoor
open Go Go.RowKit Go.BigFrame
namespace Sx
def fw (ro:Option Nat):Fence:={ fn:=fun _=>True,depth:=none,alive:=false,round:=ro }
theorem callsIn_fw {ro:Option Nat} {m:Nat} {P:Program} {f:FuncId} {args:Array Value} {w:World} {R:Ending→World→Prop} (h:Calls P f args w R):CallsIn (fw ro) m P f args w R:=callsIn_wide.2 h
theorem rowsIn_fw {ro:Option Nat} {m:Nat} {P:Program} {f:String} {args:Array Value} {w:World} {R:Value→World→Prop} (h:Rows P f args w R):RowsIn (fw ro) m P f args w R :=
  fun c cs _=>let ⟨v,w',r,s⟩:=h c cs;⟨v,w',r,stepsIn_wide.2 s⟩
theorem oper_fw {ro:Option Nat} {m:Nat} {P:Program} {o:Oper} {a:Act} {w:World} {next:Act→World→Prop} {Q:Exit→Act→World→Prop} (hd:∀ c,o.op≠.defer c) (h:o.wp P a w next Q):o.wpIn (fw ro) m P a w next Q:=by
  refine⟨fun _ _=>trivial,?_⟩
  rw[Oper.semAt_eq _ _ _ hd]
  unfold Oper.wp at h
  generalize (execOp a.eval o).run P w=r at *
  cases r with
  | ok x w' =>
    cases x<;>simp only[Oper.upon,Oper.uponIn] at h ⊢ <;>
      first
        | exact h
        | exact⟨fun h=>by simp[fw] at h,callsIn_fw h⟩
        | exact⟨fun h=>by simp[fw] at h,rowsIn_fw h⟩
  | halt x w'=>cases x<;>simp only[Oper.upon,Oper.uponIn] at h ⊢<;>exact h
def nodef (l:List Oper):Bool:=l.all (fun o=>match o.op with|.defer _=>false|_=>true)
theorem nodef_at {l:List Oper} (h:nodef l=true):∀ o∈l,∀ c,o.op≠.defer c:=by
  intro o ho c hc
  have:=List.all_eq_true.1 h o ho
  rw[hc] at this
  cases this
theorem list_fw {ro:Option Nat} {m:Nat} {P:Program} {ops:Array Oper} {Q:Exit→Act→World→Prop} (hQ:¬ LetsOut Q):∀ {l:List Oper} {a:Act} {w:World},(∀ o∈l,∀ c,o.op≠.defer c)→wpList P ops Q l a w→wpListIn (fw ro) m P ops Q l a w
  | [],_,_,_,h=>h
  | o::r,a,w,hd,h=>by
    unfold wpList at h
    unfold wpListIn
    split at h
    · rename_i hw
      rw[if_pos hw]
      rcases h with h|h
      · exact Oper.wpIn_mono (fun a w h=>list_fw hQ (fun o ho=>hd o (by simp[ho])) h) (oper_fw (hd o (by simp)) h)
      · exact absurd h.2 hQ
    · rename_i hw
      rw[if_neg hw]
      exact⟨fun _ _=>trivial,list_fw hQ (fun o ho=>hd o (by simp[ho])) h⟩
section
variable (ro:Option Nat) (m:Nat) (P:Program) (w0:World) (gs:List Nat) (n:Nat)
def WI (c:Code) (Q:Exit→Act→World→Prop) (K:List (Nat × Value)) (L:List Ent):Prop :=
  ∀ a w,a.defers=[]→a.tmps.size=n→Kn K a→Me w0 gs L w→c.wpIn (fw ro) m P Q a w
end
section
variable {ro:Option Nat} {m:Nat} {P:Program} {w0:World} {gs:List Nat} {n:Nat} {Q:Exit→Act→World→Prop} {K:List (Nat × Value)} {L:List Ent}
theorem WI.skip (k:WX w0 gs n .normal Q K L):WI ro m P w0 gs n .skip Q K L:=fun a w h1 h2 h3 h4=>wpIn_skip (k a w h1 h2 h3 h4)
theorem WI.seq {x y:Code} (k:WI ro m P w0 gs n x (Exit.then (y.wpIn (fw ro) m P Q) Q) K L):WI ro m P w0 gs n (.seq x y) Q K L:=fun a w h1 h2 h3 h4=>wpIn_seq (k a w h1 h2 h3 h4)
theorem WI.condT {c:Operand} {x y:Code} (hc:ev K c=some (.bool true)) (k:WI ro m P w0 gs n x Q K L):WI ro m P w0 gs n (.cond c x y) Q K L:=fun a w h1 h2 h3 h4=>wpIn_cond_true (h3.eval hc) (k a w h1 h2 h3 h4)
theorem WI.condF {c:Operand} {x y:Code} (hc:ev K c=some (.bool false)) (k:WI ro m P w0 gs n y Q K L):WI ro m P w0 gs n (.cond c x y) Q K L:=fun a w h1 h2 h3 h4=>wpIn_cond_false (h3.eval hc) (k a w h1 h2 h3 h4)
theorem WI.region {id:Nat} {l:List Oper} (k:WO P w0 gs n l Q K L l) (hQ:¬ LetsOut Q) (hd:nodef l=true:=by rfl):WI ro m P w0 gs n (.region id l.toArray false) Q K L:=fun a w h1 h2 h3 h4 =>
  wpIn_region_lit (list_fw hQ (nodef_at hd) (k a w h1 h2 h3 h4))
theorem WI.block {id:Nat} {c:Code} (k:WI ro m P w0 gs n c (Exit.inBlock id Q) K L):WI ro m P w0 gs n (.block id c) Q K L:=fun a w h1 h2 h3 h4=>wpIn_block (k a w h1 h2 h3 h4)
theorem WI.exit {id:Nat} (k:WX w0 gs n (.exit id) Q K L):WI ro m P w0 gs n (.exit id) Q K L:=fun a w h1 h2 h3 h4=>wpIn_exit (k a w h1 h2 h3 h4)
theorem WI.ret (k:WX w0 gs n .ret Q K L):WI ro m P w0 gs n .ret Q K L:=fun a w h1 h2 h3 h4=>wpIn_ret (k a w h1 h2 h3 h4)
def MetW {σ:Type} (n:Nat) (Ks:σ→List (Nat × Value)) (Inv:σ→World→Prop) (ok:σ→Prop):Act→World→Prop:=fun a w=>∃ s,ok s∧a.defers=[]∧a.tmps.size=n∧Kn (Ks s) a∧Inv s w
theorem WI.loopW {σ:Type} {c:Code} (Ks:σ→List (Nat × Value)) (Inv:σ→World→Prop) (μ:σ→Nat) (s0:σ) (h0:∀ w,Me w0 gs L w→Inv s0 w) (hk:Kle (Ks s0) K)
    (k:∀ s w,Inv s w→WI ro m P w [] n c (Exit.then (MetW n Ks Inv (fun s'=>μ s' < μ s)) Q) (Ks s) []):WI ro m P w0 gs n (.loop c) Q K L:=fun a w h1 h2 h3 h4=>by
  refine wpIn_loop (fun a w=>∃ j s,μ s=j∧a.defers=[]∧a.tmps.size=n∧Kn (Ks s) a∧Inv s w) (fun a w=>leastOf (fun j=>∃ s,μ s=j∧a.defers=[]∧a.tmps.size=n∧Kn (Ks s) a∧Inv s w)) ⟨_,s0,rfl,h1,h2,hk.kn h3,h0 w h4⟩ ?_
  intro a w hI
  obtain⟨s,hs,g1,g2,g3,g4⟩:=(leastOf_spec hI).1
  refine wpIn_mono (k s w g4 a w g1 g2 g3 (Me.refl w [])) ?_
  intro e a' w' hq
  cases e with
  | normal =>
    obtain⟨s',hlt,hI'⟩:=hq
    refine show (∃ j s,μ s=j∧_)∧leastOf _<leastOf _ from ⟨⟨_,s',rfl,hI'⟩,Nat.lt_of_le_of_lt ((leastOf_spec ⟨_,s',rfl,hI'⟩).2 (μ s') ⟨s',rfl,hI'⟩) ?_⟩
    rw[← hs]
    exact hlt
  | _=>exact hq
theorem WX.metW {σ:Type} {Ks:σ→List (Nat × Value)} {Inv:σ→World→Prop} {ok:σ→Prop} (s:σ) (hs:ok s) (hk:Kle (Ks s) K) (hi:∀ w,Me w0 gs L w→Inv s w):WX w0 gs n .normal (Exit.then (MetW n Ks Inv ok) Q) K L :=
  fun _ w h1 h2 h3 h4=>⟨s,hs,h1,h2,hk.kn h3,hi w h4⟩
theorem WX.seqI {y:Code} {Q' : Exit→Act→World→Prop} (k:WI ro m P w0 gs n y Q K L):WX w0 gs n .normal (Exit.then (y.wpIn (fw ro) m P Q) Q') K L:=k
end
def dfA (ds:List Deferred) (a:Act):Act:={ a with defers:=a.defers++ds }
theorem dfA_put (ds:List Deferred) (a:Act) (d:Option Tmp) (v:Value):(dfA ds a).put d v=dfA ds (a.put d v):=by cases d<;>rfl
theorem list_df {P:Program} {ops:Array Oper} {Q:Exit→Act→World→Prop} (ds:List Deferred):∀ {l:List Oper} {a:Act} {w:World},wpList P ops (fun e a w=>Q e (dfA ds a) w) l a w→wpList P ops Q l (dfA ds a) w
  | [],_,_,h=>h
  | o::r,a,w,h=>by
    unfold wpList at h ⊢
    have ht:(dfA ds a).tmps=a.tmps:=rfl
    have he:(dfA ds a).eval=a.eval:=rfl
    rw[ht]
    split at h
    · rename_i hw
      rw[if_pos hw]
      rcases h with h|⟨h,hl⟩
      · refine .inl ?_
        unfold Oper.wp at h ⊢
        rw[he]
        generalize (execOp a.eval o).run P w=x at *
        cases x with
        | ok n w' =>
          cases n with
          | value v=>simp only[Oper.upon] at h ⊢;rw[dfA_put];exact list_df ds h
          | skip=>simp only[Oper.upon] at h ⊢;rw[dfA_put];exact list_df ds h
          | defer dd=>simp only[Oper.upon] at h ⊢;exact (dfA_put ds { a with defers:=dd::a.defers } o.dst undef) ▸ list_df ds h
          | enter f args =>
            simp only[Oper.upon] at h ⊢
            exact Calls.mono h (fun e w'' hq=>by
              cases e with
              | returned v=>simp only at hq ⊢;rw[dfA_put];exact list_df ds hq
              | panicked c=>exact hq
              | outgrown=>obtain⟨a',w',hq⟩:=hq;exact⟨_,w',hq⟩)
          | row f args=>simp only[Oper.upon] at h ⊢;exact Rows.mono h (fun v w'' hq=>by rw[dfA_put];exact list_df ds hq)
          | _=>simp only[Oper.upon] at h
        | halt x w'=>cases x<;>simp only[Oper.upon] at h ⊢<;>exact h
      · obtain⟨a',w',hl⟩:=hl
        exact .inr ⟨h,_,w',hl⟩
    · rename_i hw
      rw[if_neg hw,dfA_put]
      exact list_df ds h
theorem WO.tail {P:Program} {w0:World} {gs:List Nat} {n:Nat} {Q:Exit→Act→World→Prop} {K:List (Nat × Value)} {L:List Ent} {ds:List Deferred} {id:Nat} {l:List Oper} {c:Code} {a:Act} {w:World} (hd:a.defers=ds) (hs:a.tmps.size=n) (hk:Kn K a) (hm:Me w0 gs L w)
    (k:WO P w0 gs n l (fun e a w=>(Exit.then (c.wp P Q) Q) e (dfA ds a) w) K L l):(Code.seq (.region id l.toArray false) c).wp P Q a w:=by
  refine wp_seq (wp_region_lit ?_)
  have e:a=dfA ds { tmps:=a.tmps,defers:=[] }:=by
    cases a;subst hd;rfl
  rw[e]
  exact list_df ds (k { tmps:=a.tmps,defers:=[] } w rfl hs hk hm)
theorem kin_kn {args:List Value} {n:Nat} (hle:args.length≤n) (t:Nat) (v:Value) (hv:lk (kin args 0) t=some v):(args.toArray++Array.replicate (n - args.length) undef)[t]?=some v:=by
  obtain⟨j,h1,h2⟩:=kin_spec args 0 t v hv
  subst h1
  have hj:j<args.length:=by
    rcases Nat.lt_or_ge j args.length with h|h
    · exact h
    · rw[List.getElem?_eq_none h] at h2;cases h2
  simp only[Nat.zero_add]
  rw[Array.getElem?_append_left (by simpa using hj)]
  simpa using h2
theorem callsIn_enter {m n:Nat} {P:Program} {f:FuncId} {fn:Func} {c:Code} {args:List Value} {w:World} {R:Ending→World→Prop} (hf:P.funcs[f]?=some fn) (hb:fn.body=some c) (hn:fn.ntmps=n) (hle:Nat.ble args.length n=true)
    (k:WI none m P w [] n c (bodyPost P fn R) (kin args 0) []):CallsIn (fw none) m P f args.toArray w R:=by
  refine callsIn_of_wp hf hb trivial ?_ rfl
  subst hn
  have hle' : args.length≤fn.ntmps:=by simpa using hle
  exact k _ w rfl (by simp;omega) (kin_kn hle') (Me.refl w [])
theorem calls_enterM {n:Nat} (m:Nat) {P:Program} {f:FuncId} {fn:Func} {c:Code} {args:List Value} {w:World} {R:Ending→World→Prop} (hf:P.funcs[f]?=some fn) (hb:fn.body=some c) (hn:fn.ntmps=n) (hle:Nat.ble args.length n=true)
    (k:WC P w [] n c (bodyPostM Fence.wide m P fn R) (kin args 0) []):Calls P f args.toArray w R:=by
  refine (callsIn_wide (n:=m)).1 (callsIn_of_wp_marks hf hb trivial ?_ rfl)
  refine wpIn_wide.2 ?_
  subst hn
  have hle' : args.length≤fn.ntmps:=by simpa using hle
  exact k _ w rfl (by simp;omega) (kin_kn hle') (Me.refl w [])
def KeepB (ks:List Nat) (A B:World):Prop:=∀ k∈ks,B.heap[k]?=A.heap[k]?
theorem KeepB.trans {ks:List Nat} {A B C:World} (h:KeepB ks A B) (k:KeepB ks B C):KeepB ks A C:=fun i hi=>(k i hi).trans (h i hi)
theorem KeepB.seg {ks:List Nat} {A B:World} (h:KeepB ks A B) {b o:Nat} {cs:List Value} (hb:b∈ks) (hs:Seg A b o cs):Seg B b o cs:=fun i v hv=>(World.cell?_of_block (a:=⟨b,o+i,none⟩) (h b hb)).trans (hs i v hv)
theorem KeepB.of_mod {ks gs:List Nat} {A B:World} (h:Mod gs A B) (hk:∀ k∈ks,k<A.heap.size∧k ∉ gs):KeepB ks A B:=fun k hm=>h.block k (hk k hm).1 (hk k hm).2
theorem KeepB.put {ks:List Nat} {n:Nat} (hk:∀ k∈ks,k<n) (W:World) (l:Nat) (o o' : Obj) (hl:n≤l) (_:W.heap[l]?=some o) (_:o.isCells=false) (_:o.isWalk=false):KeepB ks W (W.putObj l o'):=fun k hm=>World.putObj_heap_other (by have:=hk k hm;omega)
theorem Me.own {w0:World} {L:List Ent} {A B:World} {row:Option Nat} {n:Nat} (h:Me w0 [] L A) (hn:w0.heap.size≤n) (hg:A.grownBy B row) (hr:∀ r,row=some r→n≤r∧∃ o:Obj,A.heap[r]?=some o∧o.isCells=false):Me w0 [] L B:=by
  have hb:Below w0.heap.size w0 B:=h.mod.below.grown hg h.mod.size (fun k e=>Nat.le_trans hn (hr k e).1)
  refine⟨.of_below hb [],fun e he=>(h.ok e he).keep ?_,h.mine,h.nodup⟩
  refine hg.block e.g (h.ok e he).lt (fun hk=>?_)
  obtain⟨_,o,h1,h2⟩:=hr e.g hk.symm
  obtain⟨t,fr,h3,_⟩:=h.ok e he
  rw[h1] at h3
  cases h3
  cases h2
theorem Ent.ok.own {e:Ent} {A B:World} {row:Option Nat} {n:Nat} (h:e.ok A) (hg:A.grownBy B row) (hr:∀ r,row=some r→n≤r∧∃ o:Obj,A.heap[r]?=some o∧o.isCells=false):e.ok B:=by
  refine h.keep (hg.block e.g h.lt (fun hk=>?_))
  obtain⟨_,o,h1,h2⟩:=hr e.g hk.symm
  obtain⟨t,fr,h3,_⟩:=h
  rw[h1] at h3
  cases h3
  cases h2
end Sx
end Go.Proofs.YtmhligfnchegdaaGreatDoor
