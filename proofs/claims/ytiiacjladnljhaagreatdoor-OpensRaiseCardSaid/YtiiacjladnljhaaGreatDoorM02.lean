/- Part 2 of the proof: SxC -/
import Derived.Test.YtiiacjladnljhaaGreatDoorM01
import Derived.Deep.LoopGhost
set_option linter.unusedSimpArgs false
set_option linter.unusedVariables false
namespace Go.Proofs.YtiiacjladnljhaaGreatDoor
open Go Go.RowKit Go.BigFrame
namespace Sx
class SzT (P:Program) (t:TypeId) (n:outParam Nat):Prop where
  size:∀ w,(sizeOf t).run P w=.ok n w
instance {P:Program} {t n:Nat} [h:AgT P t n]:SzT P t n:=⟨h.size⟩
instance {P:Program} {t:Nat} [h:OnT P t]:SzT P t 1:=⟨h.size⟩
section
variable {P:Program} {w0:World} {gs:List Nat} {K:List (Nat × Value)} {L:List Ent}
theorem stores_own {t n g off t' : Nat} {x y:Operand} {ty:TypeId} {v:Value} {vs cs cs' : List Value} {L' : List Ent} [SzT P t n] (hx:ev K x=some (.pointer (some ⟨g,off,none⟩)))
    (hy:ev K y=some v) (hv:cellsOf v=vs) (hl:vs.length=n) (h1:vs.all Value.oneCell'=true) (hr:Rp L g t' cs cs' L') (hc:over cs off vs=cs') (hle:off+vs.length≤cs.length) (ht:t'≠0) :
    Stores P w0 gs K L (.store t x y) ty L':=by
  intro a w hk hme o ho _
  subst hc
  subst hv
  have hok:=(hme.ok _ hr.mem).row ht
  obtain⟨w',h1,h2,h3,h4,h5,h6,h7⟩:=storeCells_run (P:=P) (t:=t') g (cellsOf v) off 0 cs w (by omega) (fun u hu=>List.all_eq_true.1 h1 u hu) hok
  refine⟨w',?_,hme.write hr h2 h3 h4 (by omega) (fun k _ hk=>h6 k hk) h7⟩
  have hsz:v.cells.size=n:=by rw[cellsOf_eq];simpa using hl
  simp only[execOp,ho,hk.eval hx,hk.eval hy,Instr.storeAt,Instr.sureAddr,storeVar,Sem.run_bind,Sem.run_pure,Result.andThen_ok,SzT.size (P:=P) (t:=t)]
  rw[if_neg (by simp[hsz]),cellsOf_eq]
  simp only[h1,Result.andThen_ok,Sem.run_pure]
end
def nth {α:Type}:List α→Nat→Option α
  | [],_=>none
  | x::_,0=>some x
  | _::r,i+1=>nth r i
theorem nth_eq {α:Type}:∀ (l:List α) (i:Nat),nth l i=l[i]?
  | [],i=>by simp[nth]
  | x::r,0=>rfl
  | x::r,i+1=>by simp[nth,nth_eq r i]
def wk (ops:List Oper) (K:List (Nat × Value)):Option (Nat × Bool)→Option Bool
  | none=>some true
  | some (j,b)=>match nth ops j with
    | some o=>match o.dst with
      | some t=>match lk K t with
        | some (.bool c)=>some (c == b)
        | _=>none
      | none=>none
    | none=>none
theorem wk_spec {ops:List Oper} {K:List (Nat × Value)} {a:Act} {o:Oper} {b:Bool} (hk:Kn K a) (h:wk ops K o.guard=some b):Region.wanted o (yielded ops.toArray a.tmps)=b:=by
  unfold wk at h
  unfold Region.wanted
  cases hg:o.guard with
  | none=>rw[hg] at h;cases h;rfl
  | some p =>
    obtain⟨j,want⟩:=p
    rw[hg] at h
    simp only at h ⊢
    rw[nth_eq] at h
    cases ho:ops[j]? with
    | none=>rw[ho] at h;cases h
    | some o' =>
      rw[ho] at h
      simp only at h
      cases ht:o'.dst with
      | none=>rw[ht] at h;cases h
      | some t =>
        rw[ht] at h
        simp only at h
        cases hl:lk K t with
        | none=>rw[hl] at h;cases h
        | some v =>
          rw[hl] at h
          have hat:=hk t v hl
          cases v<;>simp only[reduceCtorEq] at h
          rename_i c
          cases h
          have:yielded ops.toArray a.tmps j=some c:=by
            unfold yielded
            simp[ho,ht,hat]
          rw[this]
          cases c<;>cases want<;>rfl
section
variable (P:Program) (w0:World) (gs:List Nat) (n:Nat)
def WO (ops:List Oper) (Q:Exit→Act→World→Prop) (K:List (Nat × Value)) (L:List Ent) (rest:List Oper):Prop :=
  ∀ a w,a.defers=[]→a.tmps.size=n→Kn K a→Me w0 gs L w→wpList P ops.toArray Q rest a w
def WC (c:Code) (Q:Exit→Act→World→Prop) (K:List (Nat × Value)) (L:List Ent):Prop :=
  ∀ a w,a.defers=[]→a.tmps.size=n→Kn K a→Me w0 gs L w→c.wp P Q a w
def WX (e:Exit) (Q:Exit→Act→World→Prop) (K:List (Nat × Value)) (L:List Ent):Prop :=
  ∀ a w,a.defers=[]→a.tmps.size=n→Kn K a→Me w0 gs L w→Q e a w
end
def FnPost (w:World) (post:Value→List Ent→Prop):Ending→World→Prop :=
  fun e w'=>∃ v N,e=.returned v∧Below w.heap.size w w'∧News w.heap.size N w'∧post v N
def Fn (P:Program) (f:FuncId) (args:List Value) (R:World→Prop) (post:Value→List Ent→Prop):Prop :=
  ∀ w,R w→Calls P f args.toArray w (FnPost w post)
def Is (v:Value):Value→List Ent→Prop:=fun u _=>u=v
def Tr:World→Prop:=fun _=>True
theorem Fn.weak {P:Program} {f:FuncId} {args:List Value} {R R' : World→Prop} {post post' : Value→List Ent→Prop} (h:Fn P f args R post) (hR:∀ w,R' w→R w) (hp:∀ v N,post v N→post' v N):Fn P f args R' post' :=
  fun w hw=>(h w (hR w hw)).mono fun _ _ ⟨v,N,h1,h2,h3,h4⟩=>⟨v,N,h1,h2,h3,hp v N h4⟩
section
variable {P:Program} {w0:World} {gs:List Nat} {n:Nat} {ops:List Oper} {Q:Exit→Act→World→Prop} {K:List (Nat × Value)} {L:List Ent} {rest:List Oper}
variable {d:Nat} {op:Op} {ty:TypeId} {pos:String} {after:Array Edge} {gd:Option (Nat × Bool)}
theorem wo_at {a:Act} {w w' : World} {v:Value} {L' : List Ent} (hd:d<n) (hw:wk ops K gd=some true) (hdf:a.defers=[]) (hsz:a.tmps.size=n) (hk:Kn K a)
    (h1:(execOp a.eval ⟨some d,op,ty,pos,after,gd⟩).run P w=.ok (.value v) w') (h2:Me w0 gs L' w') (k:WO P w0 gs n ops Q ((d,v)::K) L' rest) :
    wpList P ops.toArray Q (⟨some d,op,ty,pos,after,gd⟩::rest) a w:=by
  refine wpList_step fun F hF=>?_
  rw[if_pos (wk_spec (o:=⟨some d,op,ty,pos,after,gd⟩) hk hw)]
  unfold Oper.wp
  rw[h1]
  exact hF _ _ (k _ _ (by rw[put_defers];exact hdf) (by rw[put_size];exact hsz) (hk.put (by omega) v) h2)
theorem wo_at0 {a:Act} {w w' : World} {L' : List Ent} (hw:wk ops K gd=some true) (hdf:a.defers=[]) (hsz:a.tmps.size=n) (hk:Kn K a)
    (h1:(execOp a.eval ⟨none,op,ty,pos,after,gd⟩).run P w=.ok .skip w'∨∃ v,(execOp a.eval ⟨none,op,ty,pos,after,gd⟩).run P w=.ok (.value v) w') (h2:Me w0 gs L' w') (k:WO P w0 gs n ops Q K L' rest) :
    wpList P ops.toArray Q (⟨none,op,ty,pos,after,gd⟩::rest) a w:=by
  refine wpList_step fun F hF=>?_
  rw[if_pos (wk_spec (o:=⟨none,op,ty,pos,after,gd⟩) hk hw)]
  unfold Oper.wp
  rcases h1 with h1|⟨v,h1⟩
  · rw[h1];exact hF _ _ (k _ _ hdf hsz hk h2)
  · rw[h1];exact hF _ _ (k _ _ hdf hsz hk h2)
theorem WO.does {v:Value} (h:Does P w0 gs K L op ty v) (k:WO P w0 gs n ops Q ((d,v)::K) L rest) (hd:Nat.blt d n=true:=by rfl) (hw:wk ops K gd=some true:=by rfl) :
    WO P w0 gs n ops Q K L (⟨some d,op,ty,pos,after,gd⟩::rest) :=
  fun a w hdf hsz hk hme=>wo_at (by simpa [Nat.blt_eq] using hd) hw hdf hsz hk (h a w hk hme.mr _ rfl rfl) hme k
theorem WO.skip (k:WO P w0 gs n ops Q ((d,undef)::K) L rest) (hd:Nat.blt d n=true:=by rfl) (hw:wk ops K gd=some false:=by rfl) :
    WO P w0 gs n ops Q K L (⟨some d,op,ty,pos,after,gd⟩::rest):=by
  intro a w hdf hsz hk hme
  refine wpList_step fun F hF=>?_
  rw[if_neg (by rw[wk_spec (o:=⟨some d,op,ty,pos,after,gd⟩) hk hw];simp)]
  have hd' : d<n:=by simpa [Nat.blt_eq] using hd
  exact hF _ _ (k _ _ (by rw[put_defers];exact hdf) (by rw[put_size];exact hsz) (hk.put (by omega) undef) hme)
theorem WO.makes {v:Nat→Value} {t:TypeId} {cs:List Value} (h:Makes P w0 gs K L op ty v t cs) (k:∀ g,WO P w0 gs n ops Q ((d,v g)::K) (⟨g,t,cs⟩::L) rest) (hd:Nat.blt d n=true:=by rfl) (hw:wk ops K gd=some true:=by rfl) :
    WO P w0 gs n ops Q K L (⟨some d,op,ty,pos,after,gd⟩::rest) :=
  fun a w hdf hsz hk hme=>wo_at (by simpa [Nat.blt_eq] using hd) hw hdf hsz hk (h a w hk hme.mr _ rfl rfl) (hme.alloc t cs) (k _)
theorem WO.stores {L' : List Ent} (h:Stores P w0 gs K L op ty L') (k:WO P w0 gs n ops Q K L' rest) (hw:wk ops K gd=some true:=by rfl) :
    WO P w0 gs n ops Q K L (⟨none,op,ty,pos,after,gd⟩::rest):=fun a w hdf hsz hk hme =>
  let ⟨_,h1,h2⟩:=h a w hk hme ⟨none,op,ty,pos,after,gd⟩ rfl rfl
  wo_at0 hw hdf hsz hk (.inl h1) h2 k
theorem run_call {f:FuncId} [Cal P f] {x:Operand} {xs:Array Operand} {ats:Array TypeId} {as fs cs:List Value} {a:Act} {w:World} {dst:Option Tmp} (hk:Kn K a) (hx:ev K x=some (.func (.func f) fs.toArray cs.toArray))
    (ha:evs K xs.toList=some as):(execOp a.eval ⟨dst,.call { callee:=.value x,args:=xs,argTypes:=ats },ty,pos,after,gd⟩).run P w=.ok (.enter f (fs++as++cs).toArray) w:=by
  have e1:xs.map a.eval=as.toArray:=by have h:=hk.evals ha;apply Array.ext';simpa using h
  simp only[execOp,resolve,e1,hk.eval hx,Deferred.ofValue,Sem.run_bind,Sem.run_pure,Result.andThen_ok,invoke,Cal.run]
  simp
theorem WO.calls {f:FuncId} [Cal P f] {x:Operand} {xs:Array Operand} {ats:Array TypeId} {as fs cs as' : List Value} {R:World→Prop} {post:Value→List Ent→Prop} (hc:Fn P f as' R post) (hx:ev K x=some (.func (.func f) fs.toArray cs.toArray))
    (ha:evs K xs.toList=some as) (hh:fs++as++cs=as') (hR:∀ w,Mr w0 gs L w→R w) (k:∀ v N,post v N→WO P w0 gs n ops Q ((d,v)::K) (N++L) rest)
    (hd:Nat.blt d n=true:=by rfl) (hw:wk ops K gd=some true:=by rfl) :
    WO P w0 gs n ops Q K L (⟨some d,.call { callee:=.value x,args:=xs,argTypes:=ats },ty,pos,after,gd⟩::rest):=by
  intro a w hdf hsz hk hme
  refine wpList_step fun F hF=>?_
  rw[if_pos (wk_spec (o:=⟨some d,.call { callee:=.value x,args:=xs,argTypes:=ats },ty,pos,after,gd⟩) hk hw)]
  have hd' : d<n:=by simpa [Nat.blt_eq] using hd
  unfold Oper.wp
  subst hh
  rw[run_call hk hx ha,Oper.upon_enter]
  refine (hc w (hR w hme.mr)).mono ?_
  rintro e w' ⟨v,N,rfl,hb,hn,hp⟩
  exact hF _ _ (k v N hp _ _ (by rw[put_defers];exact hdf) (by rw[put_size];exact hsz) (hk.put (by omega) v) (hme.add hb hn))
theorem WO.call {f:FuncId} [Cal P f] {xs:Array Operand} {ats:Array TypeId} {as:List Value} {R:World→Prop} {v:Value} (hc:Fn P f as R (Is v))
    (ha:evs K xs.toList=some as) (hR:∀ w,Mr w0 gs L w→R w) (k:WO P w0 gs n ops Q ((d,v)::K) L rest)
    (hd:Nat.blt d n=true:=by rfl) (hw:wk ops K gd=some true:=by rfl) :
    WO P w0 gs n ops Q K L (⟨some d,.call { callee:=.value (.func f),args:=xs,argTypes:=ats },ty,pos,after,gd⟩::rest) :=
  WO.calls (fs:=[]) (cs:=[]) hc rfl ha (by simp) hR (fun u N hu=>by
    cases hu
    exact fun a w hdf hsz hk hme=>k a w hdf hsz hk (hme.sub (List.sublist_append_right _ _))) hd hw
def News1 (P:Program) (w0:World) (gs:List Nat) (K:List (Nat × Value)) (L:List Ent) (op:Op) (ty:TypeId) (vf:(Nat→Nat)→Value) (Nf:(Nat→Nat)→List Ent) (S:(Nat→Nat)→Prop):Prop :=
  ∀ a w,Kn K a→Mr w0 gs L w→∀ o:Oper,o.op=op→o.type=ty→∃ x w',(execOp a.eval o).run P w=.ok (.value (vf x)) w'∧S x∧Below w.heap.size w w'∧News w.heap.size (Nf x) w'
theorem WO.news {vf:(Nat→Nat)→Value} {Nf:(Nat→Nat)→List Ent} {S:(Nat→Nat)→Prop} (h:News1 P w0 gs K L op ty vf Nf S) (k:∀ x,S x→WO P w0 gs n ops Q ((d,vf x)::K) (Nf x++L) rest) (hd:Nat.blt d n=true:=by rfl) (hw:wk ops K gd=some true:=by rfl) :
    WO P w0 gs n ops Q K L (⟨some d,op,ty,pos,after,gd⟩::rest):=fun a w hdf hsz hk hme =>
  let ⟨x,_,h1,h2,h3,h4⟩:=h a w hk hme.mr _ rfl rfl
  wo_at (by simpa [Nat.blt_eq] using hd) hw hdf hsz hk h1 (hme.add h3 h4) (k x h2)
def Ex (vf:(Nat→Nat)→Value) (Nf:(Nat→Nat)→List Ent) (S:(Nat→Nat)→Prop):Value→List Ent→Prop:=fun v N=>∃ x,v=vf x∧N=Nf x∧S x
theorem WC.skip (k:WX w0 gs n .normal Q K L):WC P w0 gs n .skip Q K L:=fun a w h1 h2 h3 h4=>wp_skip (k a w h1 h2 h3 h4)
theorem WC.label {l:Nat} (k:WX w0 gs n .normal Q K L):WC P w0 gs n (.label l) Q K L:=fun a w h1 h2 h3 h4=>wp_label (k a w h1 h2 h3 h4)
theorem WC.exit {id:Nat} (k:WX w0 gs n (.exit id) Q K L):WC P w0 gs n (.exit id) Q K L:=fun a w h1 h2 h3 h4=>wp_exit (k a w h1 h2 h3 h4)
theorem WC.ret (k:WX w0 gs n .ret Q K L):WC P w0 gs n .ret Q K L:=fun a w h1 h2 h3 h4=>wp_ret (k a w h1 h2 h3 h4)
theorem WC.seq {x y:Code} (k:WC P w0 gs n x (Exit.then (y.wp P Q) Q) K L):WC P w0 gs n (.seq x y) Q K L:=fun a w h1 h2 h3 h4=>wp_seq (k a w h1 h2 h3 h4)
theorem WC.block {id:Nat} {c:Code} (k:WC P w0 gs n c (Exit.inBlock id Q) K L):WC P w0 gs n (.block id c) Q K L:=fun a w h1 h2 h3 h4=>wp_block (k a w h1 h2 h3 h4)
theorem WC.scope {c:Code} (k:WC P w0 gs n c (Exit.noGoto Q) K L):WC P w0 gs n (.scope c) Q K L:=fun a w h1 h2 h3 h4=>wp_scope_straight (k a w h1 h2 h3 h4)
theorem WC.region {id:Nat} {l:List Oper} (k:WO P w0 gs n l Q K L l):WC P w0 gs n (.region id l.toArray false) Q K L:=fun a w h1 h2 h3 h4=>wp_region_lit (k a w h1 h2 h3 h4)
theorem WC.condT {c:Operand} {x y:Code} (hc:ev K c=some (.bool true)) (k:WC P w0 gs n x Q K L):WC P w0 gs n (.cond c x y) Q K L:=fun a w h1 h2 h3 h4=>wp_cond_true (h3.eval hc) (k a w h1 h2 h3 h4)
theorem WC.condF {c:Operand} {x y:Code} (hc:ev K c=some (.bool false)) (k:WC P w0 gs n y Q K L):WC P w0 gs n (.cond c x y) Q K L:=fun a w h1 h2 h3 h4=>wp_cond_false (h3.eval hc) (k a w h1 h2 h3 h4)
theorem WO.nil (k:WX w0 gs n .normal Q K L):WO P w0 gs n ops Q K L []:=fun a w h1 h2 h3 h4=>k a w h1 h2 h3 h4
theorem WX.seq {y:Code} {Q' : Exit→Act→World→Prop} (k:WC P w0 gs n y Q K L):WX w0 gs n .normal (Exit.then (y.wp P Q) Q') K L:=k
theorem WX.then_ret {F:Act→World→Prop} (k:WX w0 gs n .ret Q K L):WX w0 gs n .ret (Exit.then F Q) K L:=k
theorem WX.then_exit {F:Act→World→Prop} {id:Nat} (k:WX w0 gs n (.exit id) Q K L):WX w0 gs n (.exit id) (Exit.then F Q) K L:=k
theorem WX.blk_normal {id:Nat} (k:WX w0 gs n .normal Q K L):WX w0 gs n .normal (Exit.inBlock id Q) K L:=k
theorem WX.blk_ret {id:Nat} (k:WX w0 gs n .ret Q K L):WX w0 gs n .ret (Exit.inBlock id Q) K L:=k
theorem WX.blk_exit {id:Nat} (k:WX w0 gs n .normal Q K L):WX w0 gs n (.exit id) (Exit.inBlock id Q) K L:=fun a w h1 h2 h3 h4=>by
  show (if id=id then Q .normal a w else Q (.exit id) a w)
  rw[if_pos rfl];exact k a w h1 h2 h3 h4
theorem WX.blk_pass {id id' : Nat} (hne:Nat.beq id' id=false) (k:WX w0 gs n (.exit id') Q K L):WX w0 gs n (.exit id') (Exit.inBlock id Q) K L:=fun a w h1 h2 h3 h4=>by
  show (if id'=id then Q .normal a w else Q (.exit id') a w)
  rw[if_neg (fun h=>by subst h;rw[Nat.beq_refl] at hne;cases hne)];exact k a w h1 h2 h3 h4
theorem WX.scp_normal (k:WX w0 gs n .normal Q K L):WX w0 gs n .normal (Exit.noGoto Q) K L:=k
theorem WX.scp_ret (k:WX w0 gs n .ret Q K L):WX w0 gs n .ret (Exit.noGoto Q) K L:=k
theorem WX.scp_exit {id:Nat} (k:WX w0 gs n (.exit id) Q K L):WX w0 gs n (.exit id) (Exit.noGoto Q) K L:=k
def Kle:List (Nat × Value)→List (Nat × Value)→Prop
  | [],_=>True
  | (t,v)::r,K=>(∃ u,lk K t=some u∧u=v)∧Kle r K
theorem Kle.kn {K:List (Nat × Value)} {a:Act} (hk:Kn K a):∀ {K' : List (Nat × Value)},Kle K' K→Kn K' a
  | [],_,t,v,h=>by cases h
  | (t',v')::r,⟨⟨u,h1,h2⟩,hr⟩,t,v,h=>by
    unfold lk at h
    cases hb:Nat.beq t' t with
    | true =>
      rw[hb] at h
      have:t'=t:=Nat.eq_of_beq_eq_true hb
      subst this
      cases h
      exact hk _ _ (h2 ▸ h1)
    | false =>
      rw[hb] at h
      exact Kle.kn hk hr t v h
inductive Pk:List Ent→Nat→TypeId→List Value→List Ent→Prop
  | here {L:List Ent} {g:Nat} {t:TypeId} {cs:List Value}:Pk (⟨g,t,cs⟩::L) g t cs L
  | there {L L' : List Ent} {g:Nat} {t:TypeId} {cs:List Value} {e:Ent}:Pk L g t cs L'→Pk (e::L) g t cs (e::L')
theorem Pk.perm {L L' : List Ent} {g:Nat} {t:TypeId} {cs:List Value} (h:Pk L g t cs L'):L.Perm (⟨g,t,cs⟩::L'):=by
  induction h with
  | here=>exact .refl _
  | there _ ih=>exact (ih.cons _).trans (.swap ..)
def Lle:List Ent→List Ent→Prop
  | [],_=>True
  | e::r,L=>∃ cs L',Pk L e.g e.t cs L'∧cs=e.cs∧Lle r L'
theorem Me.perm {L L' : List Ent} {w:World} (h:Me w0 gs L w) (hp:L.Perm L'):Me w0 gs L' w :=
  ⟨h.mod,fun e he=>h.ok e (hp.mem_iff.2 he),fun e he=>h.mine e (hp.mem_iff.2 he),(hp.map _).nodup_iff.1 h.nodup⟩
theorem Lle.perm:∀ {L' L:List Ent},Lle L' L→∃ R,L.Perm (L'++R)
  | [],L,_=>⟨L,.refl _⟩
  | ⟨g,t,cs'⟩::r,L,⟨cs,L1,h1,h2,h3⟩=>by
    simp only at h1 h2
    subst h2
    obtain⟨R,hR⟩:=Lle.perm h3
    exact⟨R,h1.perm.trans (hR.cons _)⟩
theorem Lle.me {L' : List Ent} {w:World} (hl:Lle L' L) (h:Me w0 gs L w):Me w0 gs L' w :=
  let ⟨_,hp⟩:=hl.perm
  (h.perm hp).sub (List.sublist_append_left _ _)
theorem WC.less {c:Code} (K' : List (Nat × Value)) (L' : List Ent) (hk:Kle K' K) (hl:Lle L' L) (k:WC P w0 gs n c Q K' L'):WC P w0 gs n c Q K L:=fun a w h1 h2 h3 h4=>k a w h1 h2 (hk.kn h3) (hl.me h4)
def Met {σ:Type} (w0:World) (gs:List Nat) (n:Nat) (Ks:σ→List (Nat × Value)) (Ls:σ→List Ent) (ok:σ→Prop) (a:Act) (w:World):Prop :=
  ∃ s,ok s∧a.defers=[]∧a.tmps.size=n∧Kn (Ks s) a∧Me w0 gs (Ls s) w
theorem WX.met {σ:Type} {Ks:σ→List (Nat × Value)} {Ls:σ→List Ent} {ok:σ→Prop} (s:σ) (hs:ok s) (hk:Kle (Ks s) K) (hl:Lle (Ls s) L):WX w0 gs n .normal (Exit.then (Met w0 gs n Ks Ls ok) Q) K L :=
  fun _ _ h1 h2 h3 h4=>⟨s,hs,h1,h2,hk.kn h3,hl.me h4⟩
def kin:List Value→Nat→List (Nat × Value)
  | [],_=>[]
  | v::r,i=>(i,v)::kin r (i+1)
theorem kin_spec:∀ (vs:List Value) (i t:Nat) (v:Value),lk (kin vs i) t=some v→∃ j,t=i+j∧vs[j]?=some v
  | [],_,_,_,h=>by cases h
  | u::r,i,t,v,h=>by
    unfold kin lk at h
    cases hb:Nat.beq i t with
    | true =>
      rw[hb] at h
      cases h
      exact⟨0,(Nat.eq_of_beq_eq_true hb).symm,rfl⟩
    | false =>
      rw[hb] at h
      obtain⟨j,h1,h2⟩:=kin_spec r (i+1) t v h
      exact⟨j+1,by omega,by simpa using h2⟩
theorem Fn.enter {f:FuncId} {fn:Func} {c:Code} {args:List Value} {R:World→Prop} {post:Value→List Ent→Prop} (hf:P.funcs[f]?=some fn) (hb:fn.body=some c) (hn:fn.ntmps=n) (hle:Nat.ble args.length n=true)
    (k:∀ w,R w→WC P w [] n c (bodyPost P fn (FnPost w post)) (kin args 0) []):Fn P f args R post:=by
  intro w hw
  refine calls_of_wp hf hb ?_
  have hle' : args.length≤n:=by simpa using hle
  refine k w hw _ w rfl (by simp[hn];omega) (fun t v hv=>?_) (Me.refl w [])
  obtain⟨j,h1,h2⟩:=kin_spec args 0 t v hv
  subst h1
  have hj:j<args.length:=by
    rcases Nat.lt_or_ge j args.length with h|h
    · exact h
    · rw[List.getElem?_eq_none h] at h2;cases h2
  simp only[Nat.zero_add]
  rw[Array.getElem?_append_left (by simpa using hj)]
  simpa using h2
def rvS (tmps:Array Value):ResultVar→Sem Value
  | .tmp t=>pure (tmps.getD t undef)
  | .cell p t=>do loadVar t (← asAddr (tmps.getD p undef))
def Rv (P:Program) (w0:World) (gs:List Nat) (K:List (Nat × Value)) (L:List Ent) (r:ResultVar) (v:Value):Prop :=
  ∀ a w,Kn K a→Me w0 gs L w→(rvS a.tmps r).run P w=.ok v w
theorem rv_tmp {t:Nat} {v:Value} (h:lk K t=some v):Rv P w0 gs K L (.tmp t) v:=by
  intro a w hk _
  have:=hk.eval (x:=.tmp t) h
  simp only[Act.eval] at this
  simp only[rvS,this,Sem.run_pure]
theorem rv_cell {p t g off t' n:Nat} {cs vs:List Value} [AgT P t n] (hx:lk K p=some (.pointer (some ⟨g,off,none⟩))) (hm:Hs L g t' cs) (hc:cut cs off n=vs) (hl:vs.length=n) :
    Rv P w0 gs K L (.cell p t) (.agg vs.toArray):=by
  intro a w hk hme
  have:=hk.eval (x:=.tmp p) hx
  simp only[Act.eval] at this
  have hok:=hme.ok _ hm.mem
  have h1:=run_loadVar_agg (P:=P) (t:=t) w g off vs hl (fun j v hj=>by rw[hok.cell (off+j)];exact cut_get hc hj)
  simp only[rvS,this,asAddr,Sem.run_bind,Sem.run_pure,Result.andThen_ok,h1]
theorem rv_cell1 {p t g off t' : Nat} {cs:List Value} {v:Value} [OnT P t] (hx:lk K p=some (.pointer (some ⟨g,off,none⟩))) (hm:Hs L g t' cs) (hc:cs[off]?=some v) :
    Rv P w0 gs K L (.cell p t) v:=by
  intro a w hk hme
  have:=hk.eval (x:=.tmp p) hx
  simp only[Act.eval] at this
  have hok:=hme.ok _ hm.mem
  have h1:=run_loadVar_one (P:=P) (t:=t) w g off v (by rw[hok.cell off];exact hc)
  simp only[rvS,this,asAddr,Sem.run_bind,Sem.run_pure,Result.andThen_ok,h1]
theorem News.of_me {w0 w:World} {N:List Ent} (h:Me w0 [] N w):News w0.heap.size N w:=⟨h.ok,fun e he=>(h.mine e he).resolve_right (by simp),h.nodup⟩
theorem WX.ret_of {fn:Func} {post:Value→List Ent→Prop} {v:Value} {N:List Ent} (hr:∀ a w,Kn K a→Me w0 [] L w→(results fn a.tmps).run P w=.ok v w) (hN:Lle N L) (hp:post v N) :
    WX w0 [] n .ret (bodyPost P fn (FnPost w0 post)) K L:=fun a w h1 _ h3 h4 =>
  ⟨h1,v,hr a w h3 h4,v,N,rfl,h4.mod.below,News.of_me (hN.me h4),hp⟩
theorem results_eq (fn:Func) (tmps:Array Value):results fn tmps=(fn.results.mapM (rvS tmps) >>= fun vs=>pure (if h:vs.size=1 then vs[0] else .tuple vs)):=by
  have:rvS tmps=(fun x=>match x with
    | .tmp t=>pure (tmps.getD t undef)
    | .cell p t=>do loadVar t (← asAddr (tmps.getD p undef))):=by funext x;cases x<;>rfl
  rw[this];rfl
theorem mapM1 {f:ResultVar→Sem Value} {r1:ResultVar} {v1:Value} {w:World} (h1:(f r1).run P w=.ok v1 w):(#[r1].mapM f).run P w=.ok #[v1] w:=by simp[h1]
theorem mapM2 {f:ResultVar→Sem Value} {r1 r2:ResultVar} {v1 v2:Value} {w:World} (h1:(f r1).run P w=.ok v1 w) (h2:(f r2).run P w=.ok v2 w):(#[r1,r2].mapM f).run P w=.ok #[v1,v2] w:=by simp[h1,h2]
theorem mapM3 {f:ResultVar→Sem Value} {r1 r2 r3:ResultVar} {v1 v2 v3:Value} {w:World} (h1:(f r1).run P w=.ok v1 w) (h2:(f r2).run P w=.ok v2 w) (h3:(f r3).run P w=.ok v3 w):(#[r1,r2,r3].mapM f).run P w=.ok #[v1,v2,v3] w:=by simp[h1,h2,h3]
theorem WX.ret1 {fn:Func} {post:Value→List Ent→Prop} {v:Value} {r:ResultVar} (hfn:fn.results=#[r]) (hr:Rv P w0 [] K L r v) (N:List Ent) (hN:Lle N L) (hp:post v N) :
    WX w0 [] n .ret (bodyPost P fn (FnPost w0 post)) K L :=
  WX.ret_of (fun a w hk hme=>by
    have h:=mapM1 (hr a w hk hme)
    rw[results_eq,hfn,Sem.run_bind,h];rfl) hN hp
theorem WX.ret2 {fn:Func} {post:Value→List Ent→Prop} {v1 v2:Value} {r1 r2:ResultVar} (hfn:fn.results=#[r1,r2]) (hr1:Rv P w0 [] K L r1 v1) (hr2:Rv P w0 [] K L r2 v2) (N:List Ent) (hN:Lle N L) (hp:post (.tuple #[v1,v2]) N) :
    WX w0 [] n .ret (bodyPost P fn (FnPost w0 post)) K L :=
  WX.ret_of (fun a w hk hme=>by
    have h:=mapM2 (hr1 a w hk hme) (hr2 a w hk hme)
    rw[results_eq,hfn,Sem.run_bind,h];rfl) hN hp
theorem WX.ret3 {fn:Func} {post:Value→List Ent→Prop} {v1 v2 v3:Value} {r1 r2 r3:ResultVar} (hfn:fn.results=#[r1,r2,r3]) (hr1:Rv P w0 [] K L r1 v1) (hr2:Rv P w0 [] K L r2 v2) (hr3:Rv P w0 [] K L r3 v3) (N:List Ent) (hN:Lle N L) (hp:post (.tuple #[v1,v2,v3]) N) :
    WX w0 [] n .ret (bodyPost P fn (FnPost w0 post)) K L :=
  WX.ret_of (fun a w hk hme=>by
    have h:=mapM3 (hr1 a w hk hme) (hr2 a w hk hme) (hr3 a w hk hme)
    rw[results_eq,hfn,Sem.run_bind,h];rfl) hN hp
end
end Sx
end Go.Proofs.YtiiacjladnljhaaGreatDoor
