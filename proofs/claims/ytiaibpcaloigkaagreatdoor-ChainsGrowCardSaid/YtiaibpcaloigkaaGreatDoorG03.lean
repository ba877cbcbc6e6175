/- Part 3 of the proof. -/
import Derived.Test.YtiaibpcaloigkaaGreatDoorG01
import Derived.Test.YtiaibpcaloigkaaGreatDoorG02
import Derived.OrdersHeld
set_option linter.unusedSimpArgs false
set_option linter.unusedVariables false
namespace Go.Proofs.YtiaibpcaloigkaaGreatDoor
section
open Go Go.RowKit Go.BigFrame
namespace Sx
open Kp
class Mix (P:Program):Prop where
 out:P.follows .mixedOrders=true
inductive Gr:List (List Nat)→List (Nat × Ent)→Prop
 | nil:Gr [] []
 | add {G:List (List Nat)} {N:List (Nat × Ent)} (i:Nat) (es:List Ent):Gr G N→Gr (es.map Ent.g::G) (es.map (fun e=>(i,e))++N)
theorem Gr.mem {G:List (List Nat)} {N:List (Nat × Ent)} (h:Gr G N):∀ p∈N,∃ x∈G,p.2.g∈x:=by
 induction h with
 | nil=>simp
 | add i es _ ih =>
  intro p hp
  rcases List.mem_append.1 hp with hp|hp
  ·obtain⟨e,he,rfl⟩:=List.mem_map.1 hp;exact⟨_,by simp,List.mem_map.2 ⟨e,he,rfl⟩⟩
  ·obtain⟨x,hx,hg⟩:=ih p hp;exact⟨x,by simp[hx],hg⟩
theorem Gr.nodup {G:List (List Nat)} {N:List (Nat × Ent)} (h:Gr G N):G.Pairwise apart→(∀ x∈G,x.Nodup)→(N.map (fun p=>p.2.g)).Nodup:=by
 induction h with
 | nil=>simp
 | add i es hr ih =>
  intro hp hn;rw[List.pairwise_cons] at hp;rw[List.map_append,List.nodup_append];refine⟨?_,ih hp.2 (fun x hx=>hn x (by simp[hx])),?_⟩
  ·have:=hn _ (List.mem_cons_self ..);simpa [List.map_map,Function.comp_def] using this
  ·intro x hx y hy e;obtain⟨p,hp1,rfl⟩:=List.mem_map.1 hx;obtain⟨q,hq1,rfl⟩:=List.mem_map.1 hy;obtain⟨e1,he1,rfl⟩:=List.mem_map.1 hp1;obtain⟨z,hz,hg⟩:=hr.mem q hq1;exact hp.1 z hz e1.g (List.mem_map.2 ⟨e1,he1,rfl⟩) q.2.g hg e
inductive Vs (ops:List Oper) (i:Nat) (N:List (Nat × Ent)):List Ent→Prop
 | nil:Vs ops i N []
 | cons {E:List Ent} {e:Ent} (j:Nat):(j,e)∈N→anc ops i j=true→Vs ops i N E→Vs ops i N (e::E)
theorem Mh.a {α:Type} {a:α} {l:List α} (h:a∈l:=by repeat (first|exact .head _|apply List.Mem.tail)):a∈l:=h
theorem Vs.mem {ops:List Oper} {i:Nat} {N:List (Nat × Ent)} {E:List Ent} (h:Vs ops i N E):∀ e∈E,∃ j,(j,e)∈N∧anc ops i j=true:=by
 induction h with
 | nil=>simp
 | cons j hj ha _ ih =>
  intro e he
  rcases List.mem_cons.1 he with rfl|he
  ·exact⟨j,hj,ha⟩
  ·exact ih e he
section
variable (P:Program) (w0:World) (gs:LN) (n:Nat) (fl:LN) (Q:Exit→Act→World→Prop) (ops:List Oper) (L0:List Ent)
def DQ (tail:List Oper) (i:Nat) (rest:List Oper) (C:zT→Prop) (K:zT→List (Nat × Value)) (N:zT→List (Nat × Ent)):Prop :=
 ∃ ks:Nat→zT→Kind,(∀ j,i≤j→Dep ops j (ks j))∧(∀ j s,i≤j→∃ x,kD (ks j s) x) ∧
  ∀ s a w F G,C s→a.defers=[]→a.tmps.size=n→Kn (K s) a→Me w0 gs L0 w→Gr G (N s)→(∀ j e,(j,e)∈N s→j<i)→(∀ j w',i≤j→F j w')→(∀ j w',F j w'→(∀ e,(j,e)∈N s→e.ok w'))→((∃ w',∀ j,F j w')→∀ x∈G,x.Nodup) →
   chain P ops fl w ks (fun a' F' G'=>∀ w',Below w.heap.size w w'→(∀ j,F' j w')→G'.Pairwise apart→(∀ x∈G',∀ g∈x,w.heap.size≤g)→wpList P ops.toArray Q tail a' w') s rest i a F G
def Dp {α:Type} (i:Nat) (v:zT→α):Prop:=∀ s s' : zT,(∀ j,anc ops i j=true→s j=s' j)→v s=v s'
end
section
variable {P:Program} {w0:World} {gs:LN} {n:Nat} {fl:LN} {Q:Exit→Act→World→Prop} {ops:List Oper} {L0:List Ent}
variable {tail rest:List Oper} {i:Nat} {C:zT→Prop} {K:zT→List (Nat × Value)} {N:zT→List (Nat × Ent)}
variable {d:Nat} {op:Op} {ty:TypeId} {pos:String} {after:Array Edge} {gd:Option (Nat × Bool)}
theorem Dp.const {α:Type} {v:α}:Dp ops i (fun _=>v):=fun _ _ _=>rfl
theorem DQ.nil (k:∀ s,C s→WO P w0 gs n ops Q (K s) ((N s).map Prod.snd++L0) tail):DQ P w0 gs n fl Q ops L0 tail i [] C K N:=by
 refine⟨fun _ _=>.skip,fun _ _ _ _ _=>rfl,fun _ _ _=>⟨fun _=>0,trivial⟩,?_⟩;intro s a w F G hC hdf hsz hk hme hG _ _ hF hnd w' hb hf hap hge;refine k s hC a w' hdf hsz hk (hme.add hb ⟨fun e he=>?_,fun e he=>?_,?_⟩)
 ·obtain⟨p,hp,rfl⟩:=List.mem_map.1 he;exact hF p.1 w' (hf p.1) p.2 hp
 ·obtain⟨p,hp,rfl⟩:=List.mem_map.1 he;obtain⟨x,hx,hg⟩:=hG.mem p hp;exact hge x hx _ hg
 ·have:=hG.nodup hap (hnd ⟨w',hf⟩);simpa [List.map_map,Function.comp_def] using this
theorem DQ.step {o:Oper} {N' : zT→List (Nat × Ent)} {K' : zT→List (Nat × Value)} {C' : zT→Prop} (k:zT→Kind) (es:zT→List Ent) (hdep:Dep ops i k) (hex:∀ s,∃ x,kD (k s) x)
  (hob:∀ s a w F,C s→a.defers=[]→a.tmps.size=n→Kn (K s) a→Me w0 gs L0 w→(∀ j w',F j w'→∀ e,(j,e)∈N s→e.ok w')→obl P ops fl w (k s) i o a F)
  (hK:∀ s a,a.tmps.size=n→Kn (K s) a→Kn (K' s) (a.put o.dst (acn (k s) (s i)))) (hC:∀ s,C s→kD (k s) (s i)→C' s)
  (hN:∀ s,N' s=(es s).map (fun e=>(i,e))++N s) (hA:∀ s,iB (k s) (s i)=(es s).map Ent.g) (hV:∀ s w,qs (k s) (s i) w→(∀ e∈es s,e.ok w)∧((es s).map Ent.g).Nodup)
  (h:DQ P w0 gs n fl Q ops L0 tail (i+1) rest C' K' N'):DQ P w0 gs n fl Q ops L0 tail i (o::rest) C K N:=by
 obtain⟨ks,h1,h2,h3⟩:=h;have hki:(fun j s=>if j=i then k s else ks j s) i=k:=by funext s;simp
 refine⟨fun j s=>if j=i then k s else ks j s,fun j hj=>?_,fun j s hj=>?_,?_⟩
 ·by_cases e:j=i
  ·subst e;rw[hki];exact hdep
  ·have:(fun s=>if j=i then k s else ks j s)=ks j:=by funext s;simp[e]
   show Dep ops j (fun s=>if j=i then k s else ks j s);rw[this];exact h1 j Om
 ·by_cases e:j=i
  ·subst e;simp only[if_true];exact hex s
  ·simp only[e,if_false];exact h2 j s Om
 ·intro s a w F G hCs hdf hsz hk hme hG hNi hFi hF hnd;have hcong:∀ (Fin:Act→(Nat→World→Prop)→List (List Nat)→Prop) (l:List Oper) (m:Nat) (a:Act) (F:Nat→World→Prop) (G:List (List Nat)),i<m→chain P ops fl w ks Fin s l m a F G→chain P ops fl w (fun j s=>if j=i then k s else ks j s) Fin s l m a F G:=by
   intro Fin l
   induction l with
   | nil=>intro m a F G _ h;exact h
   | cons o l ih =>
    intro m a F G hm h;have hne:¬ m=i:=by omega
    unfold chain at h ⊢;simp only[hne,if_false];exact⟨h.1,fun hs=>ih (m+1) _ _ _ Om (h.2 hs)⟩
  unfold chain;simp only[if_true];refine⟨hob s a w F hCs hdf hsz hk hme hF,fun hs=>hcong _ _ _ _ _ _ Om ?_⟩;refine h3 s _ w _ _ (hC s hCs hs) (by rw[put_defers];exact hdf) (by rw[yk];exact hsz) (hK s a hsz hk) hme (by rw[hN s,hA s];exact .add i (es s) hG) (fun j e he=>?_) (fun j w' hj=>?_) (fun j w' hj e he=>?_) (fun ⟨w',hf⟩ x hx=>?_)
  ·rw[hN s] at he
   rcases List.mem_append.1 he with he|he
   ·obtain⟨e',he',h4⟩:=List.mem_map.1 he;cases h4;omega
   ·have:=hNi j e he;omega
  ·have:¬ j=i:=by omega
   simp only[this,if_false];exact hFi j w' Om
  ·rw[hN s] at he
   rcases List.mem_append.1 he with he|he
   ·obtain⟨e',he',h4⟩:=List.mem_map.1 he;cases h4;simp only[if_true] at hj;exact (hV s w' hj).1 e he'
   ·have:j≠i:=by have:=hNi j e he;omega
    simp only[this,if_false] at hj;exact hF j w' hj e he
  ·rcases List.mem_cons.1 hx with rfl|hx
   ·have:=hf i;simp only[if_true] at this;rw[hA s];exact (hV s w' this).2
   ·refine hnd ⟨w',fun j=>?_⟩ x hx
    by_cases e:j=i
    ·subst e;exact hFi j w' (Nat.le_refl _)
    ·have:=hf j;simpa [e] using this
theorem DQ.skip (h:DQ P w0 gs n fl Q ops L0 tail (i+1) rest C (fun s=>(d,undef)::K s) N) (hw:∀ s,wk ops (K s) gd=some false:=by intro _;rfl) (hd:Nat.blt d n=true:=by rfl) :
  DQ P w0 gs n fl Q ops L0 tail i (⟨some d,op,ty,pos,after,gd⟩::rest) C K N :=
 DQ.step (fun _=>.skip) (fun _=>[]) (fun _ _ _=>rfl) (fun _=>⟨fun _=>0,trivial⟩) (fun s a w F _ _ _ hk _ _=>yF (o:=⟨some d,op,ty,pos,after,gd⟩) hk (hw s))
  (fun s a hsz hk => hk.put (by have : d < n := by simpa [Nat.blt_eq] using hd
                                omega) undef) (fun _ h _=>h) (fun _=>rfl) (fun _=>rfl) (fun _ _ _=>by simp) h
theorem DQ.doesE {v:zT→Value} (E:zT→List Ent) (hE:∀ s,Vs ops i (N s) (E s)) (hv:∀ s,C s→Does P w0 gs (K s) (E s++L0) op ty (v s)) (dep:Dp ops i v)
  (h:DQ P w0 gs n fl Q ops L0 tail (i+1) rest C (fun s=>(d,v s)::K s) N) (hfl:fl.contains i=false:=by rfl) (hw:∀ s,wk ops (K s) gd=some true:=by intro _;rfl) (hd:Nat.blt d n=true:=by rfl) :
  DQ P w0 gs n fl Q ops L0 tail i (⟨some d,op,ty,pos,after,gd⟩::rest) C K N :=
 DQ.step (fun s=>.val (v s)) (fun _=>[]) (fun s s' hs=>by simp only[dep s s' hs]) (fun _=>⟨fun _=>0,trivial⟩)
  (fun s a w F hC _ _ hk hme hF=>⟨yF (o:=⟨some d,op,ty,pos,after,gd⟩) hk (hw s),.inr ⟨hfl,fun w' hb hf=>by
   unfold kyp;have hm:=(hme.below hb).mr
   rw[hv s hC a w' hk ⟨hm.mod,fun e he=>by
    rcases List.mem_append.1 he with he|he
    ·obtain⟨j,h1,h2⟩:=(hE s).mem e he;exact hF j w' (hf j h2) e h1
    ·exact hm.ok e he⟩ ⟨some d,op,ty,pos,after,gd⟩ rfl rfl]
   exact⟨rfl,Below.refl _ _⟩⟩⟩)
  (fun s a hsz hk => hk.put (by have : d < n := by simpa [Nat.blt_eq] using hd
                                omega) (v s)) (fun _ h _=>h) (fun _=>rfl) (fun _=>rfl) (fun _ _ _=>by simp) h
theorem DQ.does {v:zT→Value} (hv:∀ s,C s→Does P w0 gs (K s) L0 op ty (v s)) (dep:Dp ops i v)
  (h:DQ P w0 gs n fl Q ops L0 tail (i+1) rest C (fun s=>(d,v s)::K s) N) (hfl:fl.contains i=false:=by rfl) (hw:∀ s,wk ops (K s) gd=some true:=by intro _;rfl) (hd:Nat.blt d n=true:=by rfl) :
  DQ P w0 gs n fl Q ops L0 tail i (⟨some d,op,ty,pos,after,gd⟩::rest) C K N :=
 DQ.doesE (fun _=>[]) (fun _=>.nil) hv dep h hfl hw hd
theorem DQ.free {v:zT→Value} (hv:∀ s,C s→∀ w0 gs,Does P w0 gs (K s) [] op ty (v s)) (dep:Dp ops i v)
  (h:DQ P w0 gs n fl Q ops L0 tail (i+1) rest C (fun s=>(d,v s)::K s) N) (hw:∀ s,wk ops (K s) gd=some true:=by intro _;rfl) (hd:Nat.blt d n=true:=by rfl) :
  DQ P w0 gs n fl Q ops L0 tail i (⟨some d,op,ty,pos,after,gd⟩::rest) C K N :=
 DQ.step (fun s=>.val (v s)) (fun _=>[]) (fun s s' hs=>by simp only[dep s s' hs]) (fun _=>⟨fun _=>0,trivial⟩)
  (fun s a w F hC _ _ hk hme hF=>⟨yF (o:=⟨some d,op,ty,pos,after,gd⟩) hk (hw s),.inl (fun w'=>hv s hC w' [] a w' hk (Me.refl w' []).mr ⟨some d,op,ty,pos,after,gd⟩ rfl rfl)⟩)
  (fun s a hsz hk => hk.put (by have : d < n := by simpa [Nat.blt_eq] using hd
                                omega) (v s)) (fun _ h _=>h) (fun _=>rfl) (fun _=>rfl) (fun _ _ _=>by simp) h
theorem DQ.newsE {vf:zT→(Nat→Nat)→Value} {Nf:zT→(Nat→Nat)→List Ent} {S:zT→(Nat→Nat)→Prop} (E:zT→List Ent) (hE:∀ s,Vs ops i (N s) (E s)) (hS:∀ s,∃ x,S s x)
  (hv:∀ s,C s→gJ P w0 gs (K s) (E s++L0) op ty (vf s) (Nf s) (S s)) (dep:Dp ops i vf) (depN:Dp ops i Nf) (depS:Dp ops i S)
  (h:DQ P w0 gs n fl Q ops L0 tail (i+1) rest (fun s=>C s∧S s (s i)) (fun s=>(d,vf s (s i))::K s) (fun s=>(Nf s (s i)).map (fun e=>(i,e))++N s)) (hfl:fl.contains i=false:=by rfl) (hw:∀ s,wk ops (K s) gd=some true:=by intro _;rfl) (hd:Nat.blt d n=true:=by rfl) :
  DQ P w0 gs n fl Q ops L0 tail i (⟨some d,op,ty,pos,after,gd⟩::rest) C K N :=
 DQ.step (fun s=>.rel (vf s) (S s) (fun x w=>(∀ e∈Nf s x,e.ok w)∧((Nf s x).map Ent.g).Nodup) (fun x=>(Nf s x).map Ent.g)) (fun s=>Nf s (s i))
  (fun s s' hs=>by simp only[dep s s' hs,depN s s' hs,depS s s' hs]) hS
  (fun s a w F hC _ _ hk hme hF=>⟨hfl,yF (o:=⟨some d,op,ty,pos,after,gd⟩) hk (hw s),hS s,fun x w w' ⟨h1,h2⟩ hb=>⟨fun e he=>(h1 e he).keep (hb.block e.g (h1 e he).lt),h2⟩,fun w' hb hf=>by
   unfold kyp;have hm:=(hme.below hb).mr
   obtain⟨x,w'',e1,e2,e3,e4⟩:=hv s hC a w' hk ⟨hm.mod,fun e he=>by
    rcases List.mem_append.1 he with he|he
    ·obtain⟨j,h1,h2⟩:=(hE s).mem e he;exact hF j w' (hf j h2) e h1
    ·exact hm.ok e he⟩ ⟨some d,op,ty,pos,after,gd⟩ rfl rfl
   rw[e1];refine⟨x,rfl,e2,⟨e4.ok,e4.nodup⟩,e3,fun g hg=>?_⟩;obtain⟨e,he,rfl⟩:=List.mem_map.1 hg;exact⟨e4.new e he,(e4.ok e he).lt⟩⟩)
  (fun s a hsz hk => hk.put (by have : d < n := by simpa [Nat.blt_eq] using hd
                                omega) (vf s (s i))) (fun _ h hs=>⟨h,hs⟩) (fun _=>rfl) (fun _=>rfl) (fun _ _ hh=>hh) h
theorem se.news {K:List (Nat × Value)} {L:List Ent} {v:Nat→Value} {t:TypeId} {cs:LV} (h:se P w0 gs K L op ty v t cs):gJ P w0 gs K L op ty (fun x=>v (x 0)) (fun x=>[⟨x 0,t,cs⟩]) (fun _=>True) :=
 fun a w hk hm o h1 h2=>⟨fun _=>w.heap.size,_,h a w hk hm o h1 h2,trivial,(Below.refl _ _).alloc (Nat.le_refl _) _,⟨fun e he=>by
  have:e=⟨w.heap.size,t,cs⟩:=by simpa using he
  subst this;exact .of (heap_alloc_new w _),fun e he=>by
  have:e=⟨w.heap.size,t,cs⟩:=by simpa using he
  subst this;exact Nat.le_refl _,by simp⟩⟩
theorem DQ.makesE {vf:zT→Nat→Value} {t:TypeId} {cs:zT→List Value} (E:zT→List Ent) (hE:∀ s,Vs ops i (N s) (E s))
  (hv:∀ s,C s→se P w0 gs (K s) (E s++L0) op ty (vf s) t (cs s)) (dep:Dp ops i vf) (depN:Dp ops i cs)
  (h:DQ P w0 gs n fl Q ops L0 tail (i+1) rest C (fun s=>(d,vf s (s i 0))::K s) (fun s=>(i,⟨s i 0,t,cs s⟩)::N s)) (hfl:fl.contains i=false:=by rfl) (hw:∀ s,wk ops (K s) gd=some true:=by intro _;rfl) (hd:Nat.blt d n=true:=by rfl) :
  DQ P w0 gs n fl Q ops L0 tail i (⟨some d,op,ty,pos,after,gd⟩::rest) C K N:=by
 refine DQ.newsE (vf:=fun s x=>vf s (x 0)) (Nf:=fun s x=>[⟨x 0,t,cs s⟩]) (S:=fun _ _=>True) E hE (fun _=>⟨fun _=>0,trivial⟩) (fun s hC=>(hv s hC).news) (fun s s' hs=>by simp only[dep s s' hs]) (fun s s' hs=>by simp only[depN s s' hs]) (fun _ _ _=>rfl) ?_ hfl hw hd;obtain⟨ks,h1,h2,h3⟩:=h;exact⟨ks,h1,h2,fun s a w F G hC=>h3 s a w F G hC.1⟩
theorem DQ.makes {vf:zT→Nat→Value} {t:TypeId} {cs:zT→List Value}
  (hv:∀ s,C s→se P w0 gs (K s) L0 op ty (vf s) t (cs s)) (dep:Dp ops i vf) (depN:Dp ops i cs)
  (h:DQ P w0 gs n fl Q ops L0 tail (i+1) rest C (fun s=>(d,vf s (s i 0))::K s) (fun s=>(i,⟨s i 0,t,cs s⟩)::N s)) (hfl:fl.contains i=false:=by rfl) (hw:∀ s,wk ops (K s) gd=some true:=by intro _;rfl) (hd:Nat.blt d n=true:=by rfl) :
  DQ P w0 gs n fl Q ops L0 tail i (⟨some d,op,ty,pos,after,gd⟩::rest) C K N :=
 DQ.makesE (fun _=>[]) (fun _=>.nil) hv dep depN h hfl hw hd
theorem DQ.callE {f:FuncId} [Cal P f] {xs:Array Operand} {ats:Array TypeId} {ak:zT→List Value} {R:zT→World→Prop} {v:zT→Value} (E:zT→List Ent) (hE:∀ s,Vs ops i (N s) (E s)) (hc:∀ s,C s→Fn P f (ak s) (R s) (Is (v s)))
  (ha:∀ s,evs (K s) xs.toList=some (ak s)) (hR:∀ s,C s→∀ w,Mr w0 gs (E s++L0) w→R s w) (dep:Dp ops i v)
  (h:DQ P w0 gs n fl Q ops L0 tail (i+1) rest C (fun s=>(d,v s)::K s) N) (hfl:fl.contains i=false:=by rfl) (hw:∀ s,wk ops (K s) gd=some true:=by intro _;rfl) (hd:Nat.blt d n=true:=by rfl) :
  DQ P w0 gs n fl Q ops L0 tail i (⟨some d,.call { callee:=.value (.func f),args:=xs,argTypes:=ats },ty,pos,after,gd⟩::rest) C K N :=
 DQ.step (fun s=>.val (v s)) (fun _=>[]) (fun s s' hs=>by simp only[dep s s' hs]) (fun _=>⟨fun _=>0,trivial⟩)
  (fun s a w F hC _ _ hk hme hF=>⟨yF (o:=⟨some d,.call { callee:=.value (.func f),args:=xs,argTypes:=ats },ty,pos,after,gd⟩) hk (hw s),.inr ⟨hfl,fun w' hb hf=>by
   have hm:=(hme.below hb).mr;have hm' : Mr w0 gs (E s++L0) w':=⟨hm.mod,fun e he=>by
    rcases List.mem_append.1 he with he|he
    ·obtain⟨j,h1,h2⟩:=(hE s).mem e he;exact hF j w' (hf j h2) e h1
    ·exact hm.ok e he⟩
   refine jP (f:=f) (args:=(ak s).toArray) (by have:=vr (P:=P) (f:=f) (ty:=ty) (pos:=pos) (after:=after) (gd:=gd) (dst:=some d) (ats:=ats) (x:=.func f) (w:=w') (fs:=[]) (cs:=[]) hk rfl (ha s);simpa using this) ((hc s hC w' (hR s hC w' hm')).mono ?_);rintro e w'' ⟨u,N',rfl,h1,_,h2⟩;exact⟨u,rfl,h2,h1⟩⟩⟩)
  (fun s a hsz hk => hk.put (by have : d < n := by simpa [Nat.blt_eq] using hd
                                omega) (v s)) (fun _ h _=>h) (fun _=>rfl) (fun _=>rfl) (fun _ _ _=>by simp) h
theorem DQ.call {f:FuncId} [Cal P f] {xs:Array Operand} {ats:Array TypeId} {ak:zT→List Value} {R:zT→World→Prop} {v:zT→Value} (hc:∀ s,C s→Fn P f (ak s) (R s) (Is (v s)))
  (ha:∀ s,evs (K s) xs.toList=some (ak s)) (hR:∀ s,C s→∀ w,Mr w0 gs L0 w→R s w) (dep:Dp ops i v)
  (h:DQ P w0 gs n fl Q ops L0 tail (i+1) rest C (fun s=>(d,v s)::K s) N) (hfl:fl.contains i=false:=by rfl) (hw:∀ s,wk ops (K s) gd=some true:=by intro _;rfl) (hd:Nat.blt d n=true:=by rfl) :
  DQ P w0 gs n fl Q ops L0 tail i (⟨some d,.call { callee:=.value (.func f),args:=xs,argTypes:=ats },ty,pos,after,gd⟩::rest) C K N :=
 DQ.callE (fun _=>[]) (fun _=>.nil) hc ha hR dep h hfl hw hd
theorem DQ.callsE {f:FuncId} [Cal P f] {x:Operand} {xs:Array Operand} {ats:Array TypeId} {ak fs cs ak' : zT→List Value} {R:zT→World→Prop} {vf:zT→(Nat→Nat)→Value} {Nf:zT→(Nat→Nat)→List Ent} {S:zT→(Nat→Nat)→Prop} (E:zT→List Ent) (hE:∀ s,Vs ops i (N s) (E s)) (hS:∀ s,∃ x,S s x)
  (hc:∀ s,C s→Fn P f (ak' s) (R s) (Ex (vf s) (Nf s) (S s))) (hx:∀ s,ev (K s) x=some (.func (.func f) (fs s).toArray (cs s).toArray))
  (ha:∀ s,evs (K s) xs.toList=some (ak s)) (hh:∀ s,fs s++ak s++cs s=ak' s) (hR:∀ s,C s→∀ w,Mr w0 gs (E s++L0) w→R s w) (dep:Dp ops i vf) (depN:Dp ops i Nf) (depS:Dp ops i S)
  (h:DQ P w0 gs n fl Q ops L0 tail (i+1) rest (fun s=>C s∧S s (s i)) (fun s=>(d,vf s (s i))::K s) (fun s=>(Nf s (s i)).map (fun e=>(i,e))++N s)) (hfl:fl.contains i=false:=by rfl) (hw:∀ s,wk ops (K s) gd=some true:=by intro _;rfl) (hd:Nat.blt d n=true:=by rfl) :
  DQ P w0 gs n fl Q ops L0 tail i (⟨some d,.call { callee:=.value x,args:=xs,argTypes:=ats },ty,pos,after,gd⟩::rest) C K N :=
 DQ.step (fun s=>.rel (vf s) (S s) (fun x w=>(∀ e∈Nf s x,e.ok w)∧((Nf s x).map Ent.g).Nodup) (fun x=>(Nf s x).map Ent.g)) (fun s=>Nf s (s i))
  (fun s s' hs=>by simp only[dep s s' hs,depN s s' hs,depS s s' hs]) hS
  (fun s a w F hC _ _ hk hme hF=>⟨hfl,yF (o:=⟨some d,.call { callee:=.value x,args:=xs,argTypes:=ats },ty,pos,after,gd⟩) hk (hw s),hS s,fun x w w' ⟨h1,h2⟩ hb=>⟨fun e he=>(h1 e he).keep (hb.block e.g (h1 e he).lt),h2⟩,fun w' hb hf=>by
   have hm:=(hme.below hb).mr;have hm' : Mr w0 gs (E s++L0) w':=⟨hm.mod,fun e he=>by
    rcases List.mem_append.1 he with he|he
    ·obtain⟨j,h1,h2⟩:=(hE s).mem e he;exact hF j w' (hf j h2) e h1
    ·exact hm.ok e he⟩
   refine jP (f:=f) (args:=(ak' s).toArray) (by have:=vr (P:=P) (f:=f) (ty:=ty) (pos:=pos) (after:=after) (gd:=gd) (dst:=some d) (ats:=ats) (w:=w') hk (hx s) (ha s);rw[hh s] at this;exact this) ((hc s hC w' (hR s hC w' hm')).mono ?_);rintro e w'' ⟨u,N',rfl,h1,h2,x,rfl,rfl,h3⟩;refine⟨_,rfl,x,rfl,h3,⟨h2.ok,h2.nodup⟩,h1,fun g hg=>?_⟩;obtain⟨e,he,rfl⟩:=List.mem_map.1 hg;exact⟨h2.new e he,(h2.ok e he).lt⟩⟩)
  (fun s a hsz hk => hk.put (by have : d < n := by simpa [Nat.blt_eq] using hd
                                omega) (vf s (s i))) (fun _ h hs=>⟨h,hs⟩) (fun _=>rfl) (fun _=>rfl) (fun _ _ hh=>hh) h
theorem WC.draw {K:List (Nat × Value)} {L:List Ent} {id:Nat} {l hd tl:List Oper} [Mix P] (h:Nat) (hB:yL l [] h=true) (h1:l.take h=hd) (h2:l.drop h=tl)
  (k:DQ P w0 gs n [] Q l L tl 0 hd (fun _=>True) (fun _=>K) (fun _=>[])):WC P w0 gs n (.region id l.toArray true) Q K L:=by
 intro a w hdf hsz hk hme;subst h1;subst h2;obtain⟨ks,k1,k2,k3⟩:=k;exact tz [] h ks Mix.out hB (.inl rfl) (fun i=>k1 i (Nat.zero_le _)) (fun i s=>k2 i s (Nat.zero_le _)) (fun s=>k3 s a w _ _ trivial hdf hsz hk hme .nil Sm (fun _ _ _=>trivial) Sm Sm)
theorem WC.drawF {K:List (Nat × Value)} {L:List Ent} {id:Nat} {l hd tl:List Oper} [Mix P] (fl:LN) (h:Nat) (hB:yL l fl h=true) (h1:l.take h=hd) (h2:l.drop h=tl)
  (k:DQ P w0 gs n fl (NoPanic Q) l L tl 0 hd (fun _=>True) (fun _=>K) (fun _=>[])):WC P w0 gs n (.region id l.toArray true) Q K L:=by
 intro a w hdf hsz hk hme;subst h1;subst h2;obtain⟨ks,k1,k2,k3⟩:=k;exact wp_region_noPanic (tz fl h ks Mix.out hB (.inr (fun _ _ _ _ _ h=>h.elim)) (fun i=>k1 i (Nat.zero_le _)) (fun i s=>k2 i s (Nat.zero_le _)) (fun s=>k3 s a w _ _ trivial hdf hsz hk hme .nil Sm (fun _ _ _=>trivial) Sm Sm))
theorem WX.noPanic {K:List (Nat × Value)} {L:List Ent} (k:WX w0 gs n .normal Q K L):WX w0 gs n .normal (NoPanic Q) K L:=k
end
end Sx
end
section
open Go Go.RowKit Go.BigFrame
namespace Sx
class agX (P:Program) (t:TypeId):Prop where
 under:P.underlying t=some .string
def fieldsOf (P:Program) (t:TypeId):Array Field:=match P.underlying t with
 | some (.struct fs)=>fs
 | _=>#[]
class BuT (P:Program) (t:TypeId) (places:outParam (List (Nat × Nat))) (z:outParam (List Value)):Prop where
 zero:∀ w,(zeroValue t).run P w=.ok (.agg z.toArray) w
 under:P.underlying t=some (.struct (fieldsOf P t))
 places:∀ w,((fieldsOf P t).mapM (fun f=>do pure (f.offset,← sizeOf f.type):Field→Sem (Nat × Nat))).run P w=.ok places.toArray w
theorem BuT.build {P:Program} {t:TypeId} {places:LP} {z:LV} [h:BuT P t places z] (w:World) (xs:Array (Nat × Value)) (cs:Array Value) (hf:Instr.fill (fun i=>places.toArray[i]?) z.toArray xs.toList=some cs) :
  (Instr.build t xs).run P w=.ok (.agg cs) w:=by
 have hu:∀ w,(underlying t).run P w=.ok (.struct (fieldsOf P t)) w:=fun w=>by simp[underlying,h.under]
 unfold Instr.build;simp only[Sem.run_bind,h.zero,Result.andThen_ok,hu,h.places,Value.cells,hf,Sem.run_pure]
theorem kf {P:Program} {t len elem size:Nat} {z:LV} {v:Value} [h:ArT P t len elem size] [hz:ZeT P t v] (hv:v=.agg z.toArray) (w:World) (xs:Array (Nat × Value)) (cs:Array Value) (hf:Instr.fill (fun i=>some (i*size,size)) z.toArray xs.toList=some cs) :
  (Instr.build t xs).run P w=.ok (.agg cs) w:=by
 have hu:∀ w,(underlying t).run P w=.ok (.array len elem) w:=fun w=>by simp[underlying,h.under]
 subst hv;unfold Instr.build;simp only[Sem.run_bind,hz.zero,Result.andThen_ok,hu,h.size,Value.cells,hf,Sem.run_pure]
class FiT (P:Program) (s:TypeId) (i:Nat) (off t:outParam Nat):Prop where
 field:∀ w cs,(Instr.field s (.agg cs) i).run P w=(part t cs off).run P w
def ui (place:Nat→Option (Nat × Nat)):List Value→List (Nat × Value)→Option (List Value)
 | cs,[]=>some cs
 | cs,(i,v)::r=>match place i with
  | none=>none
  | some (off,size)=>bif Nat.beq (cellsOf v).length size && Nat.ble (off+(cellsOf v).length) cs.length then ui place (over cs off (cellsOf v)) r else none
theorem qU (off:Nat):∀ (vs:LV) (i:Nat) (cs:LV),off+i+vs.length≤cs.length →
  (vs.zipIdx i).foldl (fun (a:Array Value) (p:Value × Nat)=>a.setIfInBounds (off+p.2) p.1) cs.toArray=(over cs (off+i) vs).toArray
 | [],i,cs,_=>by simp[over]
 | v::r,i,cs,h=>by
  simp only[List.length_cons] at h;rw[List.zipIdx_cons,List.foldl_cons];simp only[List.setIfInBounds_toArray];rw[qU off r (i+1) (cs.set (off+i) v) (by simp;omega)];congr 1;have hlt:off+i<cs.length:=by omega
  unfold over;rw[show off+(i+1)=off+i+1 by omega];simp only[List.length_cons];have h1:(cs.set (off+i) v).take (off+i+1)=cs.take (off+i)++[v]:=by
   rw[List.take_succ_eq_append_getElem (by simpa using hlt)];simp[List.take_set_of_le]
  have h2:(cs.set (off+i) v).drop (off+i+1+r.length)=cs.drop (off+i+(r.length+1)):=by
   rw[List.drop_set_of_lt Om,show off+i+1+r.length=off+i+(r.length+1) by omega]
  rw[h1,h2];simp
theorem ni {place place' : Nat→Option (Nat × Nat)} (hp:∀ i,place i=place' i):∀ (xs:List (Nat × Value)) (cs cs' : List Value),ui place cs xs=some cs'→Instr.fill place' cs.toArray xs=some cs'.toArray
 | [],cs,cs',h=>by cases h;rfl
 | (i,v)::r,cs,cs',h=>by
  unfold ui at h;unfold Instr.fill;rw[hp i] at h;cases hpl:place' i with
  | none=>rw[hpl] at h;cases h
  | some q =>
   obtain⟨off,size⟩:=q;rw[hpl] at h;simp only at h ⊢;cases hb:(Nat.beq (cellsOf v).length size && Nat.ble (off+(cellsOf v).length) cs.length) with
   | false=>rw[hb] at h;cases h
   | true =>
    rw[hb] at h;simp only[cond_true,Bool.and_eq_true] at h hb;have h1:(cellsOf v).length=size:=Nat.eq_of_beq_eq_true hb.1;have h2:off+(cellsOf v).length≤cs.length:=Nat.le_of_ble_eq_true hb.2;have e:v.cells.size=(cellsOf v).length:=by rw[vJ];simp
    rw[e,if_neg (by simp[h1];omega)];have:=qU off (cellsOf v) 0 cs Om;rw[vJ];simp only[Nat.add_zero] at this;have hz:(cellsOf v).toArray.zipIdx.foldl (fun (a:Array Value) (p:Value × Nat)=>a.setIfInBounds (off+p.2) p.1) cs.toArray=(over cs off (cellsOf v)).toArray:=by
     rw[← this];simp[← Array.foldl_toList]
    have:=ni hp r (over cs off (cellsOf v)) cs' h;rw[← hz] at this;exact this
def evp (K:List (Nat × Value)):List (Nat × Operand)→Option (List (Nat × Value))
 | []=>some []
 | (i,x)::r=>match ev K x with
  | some v=>match evp K r with
   | some vs=>some ((i,v)::vs)
   | none=>none
  | none=>none
theorem Kn.evp {K:List (Nat × Value)} {a:Act} (h:Kn K a):∀ {xs:List (Nat × Operand)} {vs:List (Nat × Value)},evp K xs=some vs→xs.map (fun (i,x)=>(i,a.eval x))=vs
 | [],vs,hx=>by cases hx;rfl
 | (i,x)::r,vs,hx=>by
  unfold Sx.evp at hx;cases h1:ev K x with
  | none=>rw[h1] at hx;cases hx
  | some v =>
   cases h2:Sx.evp K r with
   | none=>rw[h1,h2] at hx;cases hx
   | some us =>
    rw[h1,h2] at hx;cases hx;simp only[List.map_cons,h.eval h1];rw[h.evp h2]
section
variable {P:Program} {w0:World} {gs:LN} {K:List (Nat × Value)} {L:List Ent}
theorem uL {t ty:TypeId} {places:LP} {z cs:LV} {xs:Array (Nat × Operand)} {vs:List (Nat × Value)} [BuT P t places z] (h1:evp K xs.toList=some vs) (h2:ui (nth places) z vs=some cs) :
  Does P w0 gs K L (.build t xs) ty (.agg cs.toArray):=by
 intro a w hk _ o ho _;have e:=hk.evp h1;have e' : (xs.map fun (i,x)=>(i,a.eval x)).toList=vs:=by simpa using e
 have hb:=BuT.build (P:=P) (t:=t) w (xs.map fun (i,x)=>(i,a.eval x)) cs.toArray (by rw[e'];exact ni (fun i=>by rw[um];simp) vs z cs h2);simp only[execOp,ho,Sem.run_bind];rw[hb];rfl
theorem zz {t ty len elem size:Nat} {z cs:LV} {zv:Value} {xs:Array (Nat × Operand)} {vs:List (Nat × Value)} [ArT P t len elem size] [ZeT P t zv] (hz:zv=.agg z.toArray) (h1:evp K xs.toList=some vs) (h2:ui (fun i=>some (i*size,size)) z vs=some cs) :
  Does P w0 gs K L (.build t xs) ty (.agg cs.toArray):=by
 intro a w hk _ o ho _;have e:=hk.evp h1;have e' : (xs.map fun (i,x)=>(i,a.eval x)).toList=vs:=by simpa using e
 have hb:=kf (P:=P) (t:=t) (size:=size) hz w (xs.map fun (i,x)=>(i,a.eval x)) cs.toArray (by rw[e'];exact ni (fun i=>rfl) vs z cs h2);simp only[execOp,ho,Sem.run_bind];rw[hb];rfl
theorem iU {s i off t n ty:Nat} {x:Operand} {cs vs:LV} [FiT P s i off t] [AgT P t n] (hx:ev K x=some (.agg cs.toArray)) (hc:cut cs off n=vs) :
  Does P w0 gs K L (.field s x i) ty (.agg vs.toArray):=by
 intro a w hk _ o ho _;subst hc;simp only[execOp,ho,hk.eval hx,Sem.run_bind,FiT.field (P:=P) (s:=s) (i:=i),part,AgT.agg (P:=P) (t:=t) w,Result.andThen_ok,if_true,AgT.size (P:=P) (t:=t) w,Sem.run_pure];simp[cut,List.extract_eq_take_drop]
theorem kK {s i off t ty:Nat} {x:Operand} {cs:LV} {v:Value} [FiT P s i off t] [OnT P t] (hx:ev K x=some (.agg cs.toArray)) (hc:cs[off]?=some v) :
  Does P w0 gs K L (.field s x i) ty v:=by
 intro a w hk _ o ho _;have:cs.toArray[off]?=some v:=by simpa using hc
 simp only[execOp,ho,hk.eval hx,Sem.run_bind,FiT.field (P:=P) (s:=s) (i:=i),part,OnT.agg (P:=P) (t:=t) w,Result.andThen_ok,Bool.false_eq_true,if_false,this,Sem.run_pure]
end
end Sx
end
section
open Go Go.RowKit Go.BigFrame
namespace Sx
open Kp
def ahF (ops:List Oper) (fl:LN) (listed:Array Bool) (f:Nat):Bool:=(List.range ops.length).all fun t=>fl.contains t || !listed.getD t false || match ops[t]? with
 | some o=>o.after.all fun e=>!(Region.binds .any e && e.on == f)
 | none=>true
def Sp (ops:List Oper) (fl:LN) (Hf:Nat→World→Prop) (listed:Array Bool) (w:World):Prop:=∀ f,fl.contains f=true→ahF ops fl listed f=true→Hf f w
section
variable (P:Program) (ops:List Oper) (fl:LN) (Hf:Nat→World→Prop) (w0:World)
def ahR (k:Kind) (i:Nat) (o:Oper) (a:Act) (F:Nat→World→Prop):Prop :=
 match k with
 | .skip=>Region.wanted o (yielded ops.toArray a.tmps)=false
 | .val v=>Region.wanted o (yielded ops.toArray a.tmps)=true∧((∀ w,Hf i w→(execOp a.eval o).run P w=.ok (.value v) w)∨(fl.contains i=false ∧
   ∀ w,Below w0.heap.size w0 w→(∀ j,anc ops i j=true→F j w)→kyp P o a w (fun u w'=>u=v∧Below w.heap.size w w')))
 | .rel v S V A=>fl.contains i=false∧Region.wanted o (yielded ops.toArray a.tmps)=true∧(∃ x,S x)∧(∀ x w w',V x w→Below w.heap.size w w'→V x w') ∧
   ∀ w,Below w0.heap.size w0 w→(∀ j,anc ops i j=true→F j w)→kyp P o a w (fun u w'=>∃ x,u=v x∧S x∧V x w'∧Below w.heap.size w w'∧∀ g∈A x,w.heap.size≤g∧g<w'.heap.size)
variable (K:Nat→zT→Kind)
def acE (Fin:Act→(Nat→World→Prop)→List (List Nat)→Prop) (s:zT):List Oper→Nat→Act→(Nat→World→Prop)→List (List Nat)→Prop
 | [],_,a,F,G=>Fin a F G
 | o::l,i,a,F,G=>ahR P ops fl Hf w0 (K i s) i o a F∧(kD (K i s) (s i)→acE Fin s l (i+1) (a.put o.dst (acn (K i s) (s i))) (fun j w=>if j=i then qs (K i s) (s i) w else F j w) (iB (K i s) (s i)::G))
end
section
variable {P:Program} {ops:List Oper} {fl:LN} {w0:World} {K:Nat→zT→Kind}
end
def ahI (hl:List (Nat × List Ent)) (f:Nat) (w:World):Prop:=∀ p∈hl,p.1=f→∀ e∈p.2,e.ok w
def aaW (N k:Nat):Array Bool:=(List.replicate k true++List.replicate (N - k) false).toArray
def ly (P:Program) (ops:Array Oper) (Q:Exit→Act→World→Prop) (Sd:Nat→World→Prop):List Oper→Nat→Act→World→Prop
 | [],_,a,w=>Q .normal a w
 | o::l,k,a,w=>if Region.wanted o (yielded ops a.tmps) then o.wp P a w (fun a' w'=>Sd k w'∧ly P ops Q Sd l (k+1) a' w') Q else Sd k w∧ly P ops Q Sd l (k+1) (a.put o.dst undef) w
section
variable (P:Program) (w0:World) (gs:LN) (n:Nat) (fl:LN) (hl:List (Nat × List Ent)) (Q:Exit→Act→World→Prop) (ops:List Oper) (L0:List Ent)
def Sd (k:Nat) (w:World):Prop:=Sp ops fl (ahI hl) (aaW ops.length (k+1)) w
def DQS (tail:List Oper) (hN:Nat) (i:Nat) (rest:List Oper) (C:zT→Prop) (K:zT→List (Nat × Value)) (N:zT→List (Nat × Ent)):Prop :=
 ∃ ks:Nat→zT→Kind,(∀ j,i≤j→Dep ops j (ks j))∧(∀ j s,i≤j→∃ x,kD (ks j s) x) ∧
  ∀ s a w F G,C s→a.defers=[]→a.tmps.size=n→Kn (K s) a→Me w0 gs L0 w→Gr G (N s)→(∀ j e,(j,e)∈N s→j<i)→(∀ j w',i≤j→F j w')→(∀ j w',F j w'→(∀ e,(j,e)∈N s→e.ok w'))→((∃ w',∀ j,F j w')→∀ x∈G,x.Nodup) →
   acE P ops fl (ahI hl) w ks (fun a' F' G'=>∀ w',Below w.heap.size w w'→(∀ j,F' j w')→G'.Pairwise apart→(∀ x∈G',∀ g∈x,w.heap.size≤g)→ly P ops.toArray Q (Sd fl hl ops) tail hN a' w') s rest i a F G
end
section
variable {P:Program} {w0:World} {gs:LN} {n:Nat} {fl:LN} {hl:List (Nat × List Ent)} {Q:Exit→Act→World→Prop} {ops:List Oper} {L0:List Ent}
variable {tail rest:List Oper} {nh:Nat} {i:Nat} {C:zT→Prop} {K:zT→List (Nat × Value)} {N:zT→List (Nat × Ent)}
variable {d:Nat} {op:Op} {ty:TypeId} {pos:String} {after:Array Edge} {gd:Option (Nat × Bool)}
end
end Sx
end
end Go.Proofs.YtiaibpcaloigkaaGreatDoor
