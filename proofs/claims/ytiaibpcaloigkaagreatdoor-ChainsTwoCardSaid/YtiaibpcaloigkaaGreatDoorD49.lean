/- Part 49 of the proof. -/
import Derived.Test.YtiaibpcaloigkaaGreatDoorD15
set_option linter.unusedSimpArgs false
set_option linter.unusedVariables false
namespace Go.Proofs.YtiaibpcaloigkaaGreatDoor
section
open Go Go.RowKit Go.BigFrame
namespace Sx
def fT (j:Nat) (b:Bool) (o:Oper):Oper:=match o.guard with
 | none=>o
 | some (k,b')=>if k=j then (if b'=b then { o with guard:=none } else { o with op:=.move (.const undef),guard:=none }) else o
theorem jX (j:Nat) (b:Bool) (o:Oper):(fT j b o).after=o.after:=by
 obtain⟨d,op,ty,pos,af,gd⟩:=o;cases gd with
 | none=>rfl
 | some g =>
  unfold fT;dsimp only;split
  ·split<;>rfl
  ·rfl
theorem k8 (j:Nat) (b:Bool) (o:Oper):(fT j b o).dst=o.dst:=by
 obtain⟨d,op,ty,pos,af,gd⟩:=o;cases gd with
 | none=>rfl
 | some g =>
  unfold fT;dsimp only;split
  ·split<;>rfl
  ·rfl
theorem qs (j:Nat) (b:Bool) (ops:List Oper) (S:Array Bool):Region.ready .any (ops.map (fT j b)).toArray S=Region.ready .any ops.toArray S:=by
 unfold Region.ready;simp only[List.size_toArray,List.length_map,List.getElem?_toArray,List.getElem?_map];refine List.filter_congr fun i _=>?_;cases h:ops[i]? with
 | none=>rfl
 | some o=>simp only[Option.map_some,jX]
theorem acU {P:Program} {ops:List Oper} {Q:Exit→Act→World→Prop} {i j dj:Nat} {b:Bool} {k:Act→World→Prop} {a:Act} {w:World} {oj:Oper} (hoj:ops[j]?=some oj) (hdj:oj.dst=some dj) (ha:a.tmps[dj]?=some (.bool b))
  (h:wpOp P (ops.map (fT j b)).toArray Q i k a w):wpOp P ops.toArray Q i k a w:=by
 have hy:yielded ops.toArray a.tmps j=some b:=by
  unfold yielded;simp only[List.getElem?_toArray,hoj,Option.bind_some,hdj,ha]
 have hy' : yielded (ops.map (fT j b)).toArray a.tmps=yielded ops.toArray a.tmps:=by
  funext m;unfold yielded;simp only[List.getElem?_toArray,List.getElem?_map];cases ops[m]? with
  | none=>rfl
  | some o=>simp only[Option.map_some,Option.bind_some,k8]
 unfold wpOp at h ⊢;rw[hy'] at h;simp only[List.getElem?_toArray,List.getElem?_map] at h ⊢;cases ho:ops[i]? with
 | none=>rw[ho] at h;exact h
 | some o =>
  rw[ho] at h;simp only[Option.map_some] at h ⊢;obtain⟨d,op,ty,pos,after,gd⟩:=o;cases gd with
  | none=>exact h
  | some g =>
   obtain⟨m,b'⟩:=g;unfold fT at h
   by_cases hm:m=j
   ·subst hm
    by_cases hb:b'=b
    ·subst hb;simp only[if_true] at h;simp only[Region.wanted,hy,beq_self_eq_true,if_true] at h ⊢;exact h
    ·simp only[if_true,if_neg hb] at h;have hne:(some b == some b')=false:=by simpa using fun e=>hb e.symm
     simp only[Region.wanted,hy,hne,if_true] at h ⊢
     rcases h with h|h
     ·exact h
     ·exact absurd h.1 (fun hh=>by
      have h0:=hh.1;simp only[execOp,Sem.run_pure] at h0;have e:∀ x:Next,((pure x:Sem Next).runT P w #[]).2=#[]:=fun _=>rfl;exact absurd h0 (by first|(rw[e];simp)|simp[Sem.events]|(intro h;cases h)))
   ·simp only[if_neg hm] at h;exact h
section
variable {P:Program} {w0:World} {gs:LN} {n:Nat} {ops:List Oper} {Q:Exit→Act→World→Prop} {main:LN} {T K:List (Nat × Value)} {L:List Ent} {D:LN}
theorem WA.strip {S:List Bool} {f:Nat} (j:Nat) (b:Bool) {dj:Nat} {oj:Oper} (hoj:ops[j]?=some oj) (hdj:oj.dst=some dj) (hap:((List.range ops.length).all fun i=>decide (i=j) || ((ops[i]?).map fun o=>decide (o.dst≠some dj)).getD true)=true) (hl:S.length=ops.length) (hS:S[j]?=some true) (hK:lk K dj=some (.bool b))
  (k:WA P w0 gs n (ops.map (fT j b)) Q K L S f):WA P w0 gs n ops Q K L S f:=by
 have key:∀ (f:Nat) (S:List Bool) (a:Act) (w:World),S.length=ops.length→S[j]?=some true→a.tmps[dj]?=some (.bool b)→wpAny P .any (ops.map (fT j b)).toArray Q f S.toArray a w→wpAny P .any ops.toArray Q f S.toArray a w:=by
  intro f
  induction f with
  | zero=>intro S a w _ _ _ h;unfold wpAny at h ⊢;rw[qs] at h;exact h
  | succ f ih =>
   intro S a w hl hS ha h;unfold wpAny at h ⊢;rw[qs] at h;refine⟨h.1,fun i hi=>?_⟩;obtain⟨hil,hiS,_⟩:=vr hl hi;have hij:i≠j:=fun e=>by subst e;rw[hS] at hiS;cases hiS
   have h1:=h.2 i hi;obtain⟨o,ho⟩ : ∃ o,ops[i]?=some o:=⟨_,List.getElem?_eq_getElem hil⟩;have hod:o.dst≠some dj:=by
    have:=List.all_eq_true.1 hap i (List.mem_range.2 hil);rw[ho] at this;simpa [hij] using this
   have h2:=nX (o:=fT j b o) (by simp[ho]) h1;refine acU hoj hdj ha (wpOp_mono (fun a' w' hh=>?_) h2);rw[List.setIfInBounds_toArray] at hh ⊢;exact ih (S.set i true) a' w' (by rw[List.length_set];exact hl) (by rw[List.getElem?_set_ne hij];exact hS) (by rw[hh.2 dj (by rw[k8];exact hod)];exact ha) hh.1
 exact fun a w h1 h2 h3 h4=>key f S a w hl hS (h3 dj _ hK) (k a w h1 h2 h3 h4)
theorem WT.wa {S:List Bool} {f:Nat} (k:WT P w0 gs n ops Q main T D K L) (hl:S.length=ops.length) (hf:S.count false≤f) (hD:(main.all fun m=>decide (S[m]?=some true) == D.contains m)=true)
  (hcl:((List.range ops.length).all fun i=>decide (S[i]?≠some true) || (dps ops i).all fun j=>decide (S[j]?=some true))=true) (hT:(T.all fun x=>decide (S[x.1]?≠some true))=true):WA P w0 gs n ops Q K L S f:=fun a w h1 h2 h3 h4 =>
 k f S a w ⟨hl,hf,fun m hm=>by
  have:=List.all_eq_true.1 hD m (by simpa using hm);rw[beq_iff_eq] at this;rw[← this];simp,fun i hi j hj=>by
  have hil:i<ops.length:=by
   rw[← hl];exact (List.getElem?_eq_some_iff.1 hi).1
  have:=List.all_eq_true.1 hcl i (List.mem_range.2 hil);simp only[hi,ne_eq,not_true_eq_false,decide_false,Bool.false_or] at this;simpa using List.all_eq_true.1 this j hj,h1,h2,h3,fun i v hv hi=>by
  obtain⟨x,hx,rfl⟩:=List.mem_map.1 (qR.1 ⟨v,hv⟩);have:=List.all_eq_true.1 hT _ hx;simp[hi] at this,h4⟩
end
section
variable {P:Program}
theorem Fn.enterD {n:Nat} {f:FuncId} {fn:Func} {c:Code} {args:LV} {R:World→Prop} {post:Value→List Ent→Prop} (hf:P.funcs[f]?=some fn) (hb:fn.body=some c) (hn:fn.ntmps=n) (hle:Nat.ble args.length n=true)
  (k:∀ w,R w→WC P w [] n c (bodyPostD P fn (ue w post)) (kin args 0) []):Fn P f args R post:=by
 intro w hw;refine calls_of_wp_defers hf hb ?_;have hle' : args.length≤n:=by simpa using hle
 refine k w hw _ w rfl (by simp[hn];omega) (fun t v hv=>?_) (Me.refl w []);obtain⟨j,h1,h2⟩:=vN args 0 t v hv;subst h1;have hj:j<args.length:=by
  rcases Nat.lt_or_ge j args.length with h|h
  ·exact h
  ·rw[List.getElem?_eq_none h] at h2;cases h2
 simp only[Nat.zero_add];rw[Array.getElem?_append_left (by simpa using hj)];simpa using h2
theorem np {n:Nat} {f:FuncId} {fn:Func} {c:Code} {args:LV} {L:List Ent} {u:FrameMode} {w:World} {post:Value→List Ent→Prop} (hf:P.funcs[f]?=some fn) (hb:fn.body=some c) (hn:fn.ntmps=n) (hle:Nat.ble args.length n=true)
  (hok:∀ e∈L,e.ok w) (hnd:(L.map Ent.g).Nodup) (k:WC P w (L.map Ent.g) n c (bodyPost P fn (pL w (L.map Ent.g) post)) (kin args 0) L):CallsD P f args.toArray u w (fun e u' w'=>u'=u∧pL w (L.map Ent.g) post e w'):=by
 refine callsD_of_wp hf hb ?_;have hle' : args.length≤n:=by simpa using hle
 refine k _ w rfl (by simp[hn];omega) (fun t v hv=>?_) ⟨.refl _ _,hok,fun e he=>.inr (List.mem_map.2 ⟨e,he,rfl⟩),hnd⟩;obtain⟨j,h1,h2⟩:=vN args 0 t v hv;subst h1;have hj:j<args.length:=by
  rcases Nat.lt_or_ge j args.length with h|h
  ·exact h
  ·rw[List.getElem?_eq_none h] at h2;cases h2
 simp only[Nat.zero_add];rw[Array.getElem?_append_left (by simpa using hj)];simpa using h2
variable {w0:World} {gs:LN} {n:Nat} {ops:List Oper} {Q:Exit→Act→World→Prop} {main:LN} {T K:List (Nat × Value)} {L:List Ent} {D:LN}
theorem WO.defersA {f:FuncId} {x y:Operand} {cs:LV} {v:Value} {ats:Array TypeId} {ty:TypeId} {pos:String} {after:Array Edge} (hx:ev K x=some (.func (.func f) #[] cs.toArray)) (hy:ev K y=some v)
  (k:∀ a w,a.defers=[{ target:=.fn (.func f) cs.toArray,args:=#[v] }]→a.tmps.size=n→Kn K a→Me w0 gs L w→Q .normal a w):WO P w0 gs n ops Q K L [⟨none,.defer { callee:=.value x,args:=#[y],argTypes:=ats },ty,pos,after,none⟩]:=by
 intro a w hdf hsz hk hme;refine wpList_step fun F hF=>?_;rw[if_pos (show Region.wanted (⟨none,.defer { callee:=.value x,args:=#[y],argTypes:=ats },ty,pos,after,none⟩ : Oper) _=true from rfl)];have hr:(execOp a.eval ⟨none,.defer { callee:=.value x,args:=#[y],argTypes:=ats },ty,pos,after,none⟩).run P w=.ok (.defer { target:=.fn (.func f) cs.toArray,args:=#[v] }) w:=by
  have e:=hk.eval hx;have e2:=hk.eval hy;simp[execOp,resolve,e,e2,Deferred.ofValue,Sem.run_bind,Sem.run_pure,Result.andThen]
 unfold Oper.wp;rw[hr];exact hF _ _ (k _ w (by simp[Act.put,hdf]) hsz (fun t v h=>hk t v h) hme)
theorem WT.withD (Lc:List Ent) (hc:mC ops main (T.map Prod.fst) n=true) (hT:Tlv P w0 gs ops K Lc T [] T) (k:mC ops main (T.map Prod.fst) n=true→Tlv P w0 gs ops K Lc T [] T→WT P w0 gs n ops Q main T D K L):WT P w0 gs n ops Q main T D K L:=k hc hT
theorem Leaves.done {fn:Func} {post:Value→List Ent→Prop} {a:Act} {w:World} {v:Value} {N:List Ent} (hk:Kn K a) (hm:Me w0 [] L w) (hr:∀ a w,Kn K a→Me w0 [] L w→(results fn a.tmps).run P w=.ok v w) (hN:Lle N L) (hp:post v N):Leaves P fn a.tmps (ue w0 post) [] .returning w:=by
 have h:=hN.me hm;exact⟨v,hr a w hk hm,v,N,rfl,h.mod.below,jV.of_me h,hp⟩
end
end Sx
end
end Go.Proofs.YtiaibpcaloigkaaGreatDoor
