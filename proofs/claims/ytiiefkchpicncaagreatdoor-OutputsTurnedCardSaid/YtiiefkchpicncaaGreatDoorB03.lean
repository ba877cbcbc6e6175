/- Part 3 of the proof. -/
import Derived.Test.YtiiefkchpicncaaGreatDoorB02
import Derived.Test.YtiiefkchpicncaaGreatDoorB01
import Derived.Test.YtiiefkchpicncaaGreatDoorProg
import Derived.StillTailTactics
import Derived.BigQuiet
import Derived.Deep.QuietTactic
import Derived.Deep.RegionHeld3
import Derived.Deep.LoopGhost
import Derived.Shelf.Spec.BitsCarry
import Derived.Handy
import Derived.DeepKeys
set_option linter.unusedSimpArgs false
set_option linter.unusedVariables false
namespace Go.Proofs.YtiiefkchpicncaaGreatDoor
section
open Go Go.RowKit Go.BigFrame
namespace Sx
open Kp
class Mix (P:Program):Prop where
 out:P.follows .mixedOrders=true
inductive Gr:List (List Nat)→List (Nat × Ent)→Prop
 | nil:Gr [] []
 | add {G:List (List Nat)} {N:List (Nat × Ent)} (i:Nat) (es:List Ent):Gr G N→Gr (es.map Ent.g::G) (es.map (fun e=>(i,e))++N)
theorem Gr.mem {G:List (List Nat)} {N:List (Nat × Ent)} (h:Gr G N):∀ p∈N,∃ x∈G,p.2.g∈x:=by
 induction h with
 | nil=>simp
 | add i es _ ih =>
  intro p hp
  rcases List.mem_append.1 hp with hp|hp
  ·obtain⟨e,he,rfl⟩:=List.mem_map.1 hp;exact⟨_,by simp,List.mem_map.2 ⟨e,he,rfl⟩⟩
  ·obtain⟨x,hx,hg⟩:=ih p hp;exact⟨x,by simp[hx],hg⟩
theorem Gr.nodup {G:List (List Nat)} {N:List (Nat × Ent)} (h:Gr G N):G.Pairwise apart→(∀ x∈G,x.Nodup)→(N.map (fun p=>p.2.g)).Nodup:=by
 induction h with
 | nil=>simp
 | add i es hr ih =>
  intro hp hn;rw[List.pairwise_cons] at hp;rw[List.map_append,List.nodup_append];refine⟨?_,ih hp.2 (fun x hx=>hn x (by simp[hx])),?_⟩
  ·have:=hn _ (List.mem_cons_self ..);simpa [List.map_map,Function.comp_def] using this
  ·intro x hx y hy e;obtain⟨p,hp1,rfl⟩:=List.mem_map.1 hx;obtain⟨q,hq1,rfl⟩:=List.mem_map.1 hy;obtain⟨e1,he1,rfl⟩:=List.mem_map.1 hp1;obtain⟨z,hz,hg⟩:=hr.mem q hq1;exact hp.1 z hz e1.g (List.mem_map.2 ⟨e1,he1,rfl⟩) q.2.g hg e
inductive Vs (ops:List Oper) (i:Nat) (N:List (Nat × Ent)):List Ent→Prop
 | nil:Vs ops i N []
 | cons {E:List Ent} {e:Ent} (j:Nat):(j,e)∈N→anc ops i j=true→Vs ops i N E→Vs ops i N (e::E)
theorem Mh.a {α:Type} {a:α} {l:List α} (h:a∈l:=by repeat (first|exact .head _|apply List.Mem.tail)):a∈l:=h
theorem Vs.mem {ops:List Oper} {i:Nat} {N:List (Nat × Ent)} {E:List Ent} (h:Vs ops i N E):∀ e∈E,∃ j,(j,e)∈N∧anc ops i j=true:=by
 induction h with
 | nil=>simp
 | cons j hj ha _ ih =>
  intro e he
  rcases List.mem_cons.1 he with rfl|he
  ·exact⟨j,hj,ha⟩
  ·exact ih e he
section
variable (P:Program) (w0:World) (gs:List Nat) (n:Nat) (fl:List Nat) (Q:Exit→Act→World→Prop) (ops:List Oper) (L0:List Ent)
def DQ (tail:List Oper) (i:Nat) (rest:List Oper) (C:zW→Prop) (K:zW→List (Nat × Value)) (N:zW→List (Nat × Ent)):Prop :=
 ∃ ks:Nat→zW→Kind,(∀ j,i≤j→Dep ops j (ks j))∧(∀ j s,i≤j→∃ x,kF (ks j s) x) ∧
  ∀ s a w F G,C s→a.defers=[]→a.tmps.size=n→Kn (K s) a→Me w0 gs L0 w→Gr G (N s)→(∀ j e,(j,e)∈N s→j<i)→(∀ j w',i≤j→F j w')→(∀ j w',F j w'→(∀ e,(j,e)∈N s→e.ok w'))→((∃ w',∀ j,F j w')→∀ x∈G,x.Nodup) →
   chain P ops fl w ks (fun a' F' G'=>∀ w',Below w.heap.size w w'→(∀ j,F' j w')→G'.Pairwise apart→(∀ x∈G',∀ g∈x,w.heap.size≤g)→wpList P ops.toArray Q tail a' w') s rest i a F G
def Dp {α:Type} (i:Nat) (v:zW→α):Prop:=∀ s s' : zW,(∀ j,anc ops i j=true→s j=s' j)→v s=v s'
end
section
variable {P:Program} {w0:World} {gs:List Nat} {n:Nat} {fl:List Nat} {Q:Exit→Act→World→Prop} {ops:List Oper} {L0:List Ent}
variable {tail rest:List Oper} {i:Nat} {C:zW→Prop} {K:zW→List (Nat × Value)} {N:zW→List (Nat × Ent)}
variable {d:Nat} {op:Op} {ty:TypeId} {pos:String} {after:Array Edge} {gd:Option (Nat × Bool)}
theorem Dp.const {α:Type} {v:α}:Dp ops i (fun _=>v):=fun _ _ _=>rfl
theorem DQ.nil (k:∀ s,C s→WO P w0 gs n ops Q (K s) ((N s).map Prod.snd++L0) tail):DQ P w0 gs n fl Q ops L0 tail i [] C K N:=by
 refine⟨fun _ _=>.skip,fun _ _ _ _ _=>rfl,fun _ _ _=>⟨fun _=>0,trivial⟩,?_⟩;intro s a w F G hC hdf hsz hk hme hG _ _ hF hnd w' hb hf hap hge;refine k s hC a w' hdf hsz hk (hme.add hb ⟨fun e he=>?_,fun e he=>?_,?_⟩)
 ·obtain⟨p,hp,rfl⟩:=List.mem_map.1 he;exact hF p.1 w' (hf p.1) p.2 hp
 ·obtain⟨p,hp,rfl⟩:=List.mem_map.1 he;obtain⟨x,hx,hg⟩:=hG.mem p hp;exact hge x hx _ hg
 ·have:=hG.nodup hap (hnd ⟨w',hf⟩);simpa [List.map_map,Function.comp_def] using this
theorem DQ.step {o:Oper} {N' : zW→List (Nat × Ent)} {K' : zW→List (Nat × Value)} {C' : zW→Prop} (k:zW→Kind) (es:zW→List Ent) (hdep:Dep ops i k) (hex:∀ s,∃ x,kF (k s) x)
  (hob:∀ s a w F,C s→a.defers=[]→a.tmps.size=n→Kn (K s) a→Me w0 gs L0 w→(∀ j w',F j w'→∀ e,(j,e)∈N s→e.ok w')→obl P ops fl w (k s) i o a F)
  (hK:∀ s a,a.tmps.size=n→Kn (K s) a→Kn (K' s) (a.put o.dst (adl (k s) (s i)))) (hC:∀ s,C s→kF (k s) (s i)→C' s)
  (hN:∀ s,N' s=(es s).map (fun e=>(i,e))++N s) (hA:∀ s,iM (k s) (s i)=(es s).map Ent.g) (hV:∀ s w,qR (k s) (s i) w→(∀ e∈es s,e.ok w)∧((es s).map Ent.g).Nodup)
  (h:DQ P w0 gs n fl Q ops L0 tail (i+1) rest C' K' N'):DQ P w0 gs n fl Q ops L0 tail i (o::rest) C K N:=by
 obtain⟨ks,h1,h2,h3⟩:=h;have hki:(fun j s=>if j=i then k s else ks j s) i=k:=by funext s;simp
 refine⟨fun j s=>if j=i then k s else ks j s,fun j hj=>?_,fun j s hj=>?_,?_⟩
 ·by_cases e:j=i
  ·subst e;rw[hki];exact hdep
  ·have:(fun s=>if j=i then k s else ks j s)=ks j:=by funext s;simp[e]
   show Dep ops j (fun s=>if j=i then k s else ks j s);rw[this];exact h1 j Om
 ·by_cases e:j=i
  ·subst e;simp only[if_true];exact hex s
  ·simp only[e,if_false];exact h2 j s Om
 ·intro s a w F G hCs hdf hsz hk hme hG hNi hFi hF hnd;have hcong:∀ (Fin:Act→(Nat→World→Prop)→List (List Nat)→Prop) (l:List Oper) (m:Nat) (a:Act) (F:Nat→World→Prop) (G:List (List Nat)),i<m→chain P ops fl w ks Fin s l m a F G→chain P ops fl w (fun j s=>if j=i then k s else ks j s) Fin s l m a F G:=by
   intro Fin l
   induction l with
   | nil=>intro m a F G _ h;exact h
   | cons o l ih =>
    intro m a F G hm h;have hne:¬ m=i:=by omega
    unfold chain at h ⊢;simp only[hne,if_false];exact⟨h.1,fun hs=>ih (m+1) _ _ _ Om (h.2 hs)⟩
  unfold chain;simp only[if_true];refine⟨hob s a w F hCs hdf hsz hk hme hF,fun hs=>hcong _ _ _ _ _ _ Om ?_⟩;refine h3 s _ w _ _ (hC s hCs hs) (by rw[put_defers];exact hdf) (by rw[ym];exact hsz) (hK s a hsz hk) hme (by rw[hN s,hA s];exact .add i (es s) hG) (fun j e he=>?_) (fun j w' hj=>?_) (fun j w' hj e he=>?_) (fun ⟨w',hf⟩ x hx=>?_)
  ·rw[hN s] at he
   rcases List.mem_append.1 he with he|he
   ·obtain⟨e',he',h4⟩:=List.mem_map.1 he;cases h4;omega
   ·have:=hNi j e he;omega
  ·have:¬ j=i:=by omega
   simp only[this,if_false];exact hFi j w' Om
  ·rw[hN s] at he
   rcases List.mem_append.1 he with he|he
   ·obtain⟨e',he',h4⟩:=List.mem_map.1 he;cases h4;simp only[if_true] at hj;exact (hV s w' hj).1 e he'
   ·have:j≠i:=by have:=hNi j e he;omega
    simp only[this,if_false] at hj;exact hF j w' hj e he
  ·rcases List.mem_cons.1 hx with rfl|hx
   ·have:=hf i;simp only[if_true] at this;rw[hA s];exact (hV s w' this).2
   ·refine hnd ⟨w',fun j=>?_⟩ x hx
    by_cases e:j=i
    ·subst e;exact hFi j w' (Nat.le_refl _)
    ·have:=hf j;simpa [e] using this
theorem DQ.skip (h:DQ P w0 gs n fl Q ops L0 tail (i+1) rest C (fun s=>(d,undef)::K s) N) (hw:∀ s,wk ops (K s) gd=some false:=by intro _;rfl) (hd:Nat.blt d n=true:=by rfl) :
  DQ P w0 gs n fl Q ops L0 tail i (⟨some d,op,ty,pos,after,gd⟩::rest) C K N :=
 DQ.step (fun _=>.skip) (fun _=>[]) (fun _ _ _=>rfl) (fun _=>⟨fun _=>0,trivial⟩) (fun s a w F _ _ _ hk _ _=>yO (o:=⟨some d,op,ty,pos,after,gd⟩) hk (hw s))
  (fun s a hsz hk => hk.put (by have : d < n := by simpa [Nat.blt_eq] using hd
                                omega) undef) (fun _ h _=>h) (fun _=>rfl) (fun _=>rfl) (fun _ _ _=>by simp) h
theorem DQ.doesE {v:zW→Value} (E:zW→List Ent) (hE:∀ s,Vs ops i (N s) (E s)) (hv:∀ s,C s→Does P w0 gs (K s) (E s++L0) op ty (v s)) (dep:Dp ops i v)
  (h:DQ P w0 gs n fl Q ops L0 tail (i+1) rest C (fun s=>(d,v s)::K s) N) (hfl:fl.contains i=false:=by rfl) (hw:∀ s,wk ops (K s) gd=some true:=by intro _;rfl) (hd:Nat.blt d n=true:=by rfl) :
  DQ P w0 gs n fl Q ops L0 tail i (⟨some d,op,ty,pos,after,gd⟩::rest) C K N :=
 DQ.step (fun s=>.val (v s)) (fun _=>[]) (fun s s' hs=>by simp only[dep s s' hs]) (fun _=>⟨fun _=>0,trivial⟩)
  (fun s a w F hC _ _ hk hme hF=>⟨yO (o:=⟨some d,op,ty,pos,after,gd⟩) hk (hw s),.inr ⟨hfl,fun w' hb hf=>by
   unfold kyp;have hm:=(hme.below hb).mr
   rw[hv s hC a w' hk ⟨hm.mod,fun e he=>by
    rcases List.mem_append.1 he with he|he
    ·obtain⟨j,h1,h2⟩:=(hE s).mem e he;exact hF j w' (hf j h2) e h1
    ·exact hm.ok e he⟩ ⟨some d,op,ty,pos,after,gd⟩ rfl rfl]
   exact⟨rfl,Below.refl _ _⟩⟩⟩)
  (fun s a hsz hk => hk.put (by have : d < n := by simpa [Nat.blt_eq] using hd
                                omega) (v s)) (fun _ h _=>h) (fun _=>rfl) (fun _=>rfl) (fun _ _ _=>by simp) h
theorem DQ.does {v:zW→Value} (hv:∀ s,C s→Does P w0 gs (K s) L0 op ty (v s)) (dep:Dp ops i v)
  (h:DQ P w0 gs n fl Q ops L0 tail (i+1) rest C (fun s=>(d,v s)::K s) N) (hfl:fl.contains i=false:=by rfl) (hw:∀ s,wk ops (K s) gd=some true:=by intro _;rfl) (hd:Nat.blt d n=true:=by rfl) :
  DQ P w0 gs n fl Q ops L0 tail i (⟨some d,op,ty,pos,after,gd⟩::rest) C K N :=
 DQ.doesE (fun _=>[]) (fun _=>.nil) hv dep h hfl hw hd
theorem DQ.free {v:zW→Value} (hv:∀ s,C s→∀ w0 gs,Does P w0 gs (K s) [] op ty (v s)) (dep:Dp ops i v)
  (h:DQ P w0 gs n fl Q ops L0 tail (i+1) rest C (fun s=>(d,v s)::K s) N) (hw:∀ s,wk ops (K s) gd=some true:=by intro _;rfl) (hd:Nat.blt d n=true:=by rfl) :
  DQ P w0 gs n fl Q ops L0 tail i (⟨some d,op,ty,pos,after,gd⟩::rest) C K N :=
 DQ.step (fun s=>.val (v s)) (fun _=>[]) (fun s s' hs=>by simp only[dep s s' hs]) (fun _=>⟨fun _=>0,trivial⟩)
  (fun s a w F hC _ _ hk hme hF=>⟨yO (o:=⟨some d,op,ty,pos,after,gd⟩) hk (hw s),.inl (fun w'=>hv s hC w' [] a w' hk (Me.refl w' []).mr ⟨some d,op,ty,pos,after,gd⟩ rfl rfl)⟩)
  (fun s a hsz hk => hk.put (by have : d < n := by simpa [Nat.blt_eq] using hd
                                omega) (v s)) (fun _ h _=>h) (fun _=>rfl) (fun _=>rfl) (fun _ _ _=>by simp) h
theorem DQ.newsE {vf:zW→(Nat→Nat)→Value} {Nf:zW→(Nat→Nat)→List Ent} {S:zW→(Nat→Nat)→Prop} (E:zW→List Ent) (hE:∀ s,Vs ops i (N s) (E s)) (hS:∀ s,∃ x,S s x)
  (hv:∀ s,C s→fv P w0 gs (K s) (E s++L0) op ty (vf s) (Nf s) (S s)) (dep:Dp ops i vf) (depN:Dp ops i Nf) (depS:Dp ops i S)
  (h:DQ P w0 gs n fl Q ops L0 tail (i+1) rest (fun s=>C s∧S s (s i)) (fun s=>(d,vf s (s i))::K s) (fun s=>(Nf s (s i)).map (fun e=>(i,e))++N s)) (hfl:fl.contains i=false:=by rfl) (hw:∀ s,wk ops (K s) gd=some true:=by intro _;rfl) (hd:Nat.blt d n=true:=by rfl) :
  DQ P w0 gs n fl Q ops L0 tail i (⟨some d,op,ty,pos,after,gd⟩::rest) C K N :=
 DQ.step (fun s=>.rel (vf s) (S s) (fun x w=>(∀ e∈Nf s x,e.ok w)∧((Nf s x).map Ent.g).Nodup) (fun x=>(Nf s x).map Ent.g)) (fun s=>Nf s (s i))
  (fun s s' hs=>by simp only[dep s s' hs,depN s s' hs,depS s s' hs]) hS
  (fun s a w F hC _ _ hk hme hF=>⟨hfl,yO (o:=⟨some d,op,ty,pos,after,gd⟩) hk (hw s),hS s,fun x w w' ⟨h1,h2⟩ hb=>⟨fun e he=>(h1 e he).keep (hb.block e.g (h1 e he).lt),h2⟩,fun w' hb hf=>by
   unfold kyp;have hm:=(hme.below hb).mr
   obtain⟨x,w'',e1,e2,e3,e4⟩:=hv s hC a w' hk ⟨hm.mod,fun e he=>by
    rcases List.mem_append.1 he with he|he
    ·obtain⟨j,h1,h2⟩:=(hE s).mem e he;exact hF j w' (hf j h2) e h1
    ·exact hm.ok e he⟩ ⟨some d,op,ty,pos,after,gd⟩ rfl rfl
   rw[e1];refine⟨x,rfl,e2,⟨e4.ok,e4.nodup⟩,e3,fun g hg=>?_⟩;obtain⟨e,he,rfl⟩:=List.mem_map.1 hg;exact⟨e4.new e he,(e4.ok e he).lt⟩⟩)
  (fun s a hsz hk => hk.put (by have : d < n := by simpa [Nat.blt_eq] using hd
                                omega) (vf s (s i))) (fun _ h hs=>⟨h,hs⟩) (fun _=>rfl) (fun _=>rfl) (fun _ _ hh=>hh) h
theorem sf.news {K:List (Nat × Value)} {L:List Ent} {v:Nat→Value} {t:TypeId} {cs:List Value} (h:sf P w0 gs K L op ty v t cs):fv P w0 gs K L op ty (fun x=>v (x 0)) (fun x=>[⟨x 0,t,cs⟩]) (fun _=>True) :=
 fun a w hk hm o h1 h2=>⟨fun _=>w.heap.size,_,h a w hk hm o h1 h2,trivial,(Below.refl _ _).alloc (Nat.le_refl _) _,⟨fun e he=>by
  have:e=⟨w.heap.size,t,cs⟩:=by simpa using he
  subst this;exact .of (heap_alloc_new w _),fun e he=>by
  have:e=⟨w.heap.size,t,cs⟩:=by simpa using he
  subst this;exact Nat.le_refl _,by simp⟩⟩
theorem DQ.makesE {vf:zW→Nat→Value} {t:TypeId} {cs:zW→List Value} (E:zW→List Ent) (hE:∀ s,Vs ops i (N s) (E s))
  (hv:∀ s,C s→sf P w0 gs (K s) (E s++L0) op ty (vf s) t (cs s)) (dep:Dp ops i vf) (depN:Dp ops i cs)
  (h:DQ P w0 gs n fl Q ops L0 tail (i+1) rest C (fun s=>(d,vf s (s i 0))::K s) (fun s=>(i,⟨s i 0,t,cs s⟩)::N s)) (hfl:fl.contains i=false:=by rfl) (hw:∀ s,wk ops (K s) gd=some true:=by intro _;rfl) (hd:Nat.blt d n=true:=by rfl) :
  DQ P w0 gs n fl Q ops L0 tail i (⟨some d,op,ty,pos,after,gd⟩::rest) C K N:=by
 refine DQ.newsE (vf:=fun s x=>vf s (x 0)) (Nf:=fun s x=>[⟨x 0,t,cs s⟩]) (S:=fun _ _=>True) E hE (fun _=>⟨fun _=>0,trivial⟩) (fun s hC=>(hv s hC).news) (fun s s' hs=>by simp only[dep s s' hs]) (fun s s' hs=>by simp only[depN s s' hs]) (fun _ _ _=>rfl) ?_ hfl hw hd;obtain⟨ks,h1,h2,h3⟩:=h;exact⟨ks,h1,h2,fun s a w F G hC=>h3 s a w F G hC.1⟩
theorem DQ.makes {vf:zW→Nat→Value} {t:TypeId} {cs:zW→List Value}
  (hv:∀ s,C s→sf P w0 gs (K s) L0 op ty (vf s) t (cs s)) (dep:Dp ops i vf) (depN:Dp ops i cs)
  (h:DQ P w0 gs n fl Q ops L0 tail (i+1) rest C (fun s=>(d,vf s (s i 0))::K s) (fun s=>(i,⟨s i 0,t,cs s⟩)::N s)) (hfl:fl.contains i=false:=by rfl) (hw:∀ s,wk ops (K s) gd=some true:=by intro _;rfl) (hd:Nat.blt d n=true:=by rfl) :
  DQ P w0 gs n fl Q ops L0 tail i (⟨some d,op,ty,pos,after,gd⟩::rest) C K N :=
 DQ.makesE (fun _=>[]) (fun _=>.nil) hv dep depN h hfl hw hd
theorem DQ.callE {f:FuncId} [Cal P f] {xs:Array Operand} {ats:Array TypeId} {ak:zW→List Value} {R:zW→World→Prop} {v:zW→Value} (E:zW→List Ent) (hE:∀ s,Vs ops i (N s) (E s)) (hc:∀ s,C s→Fn P f (ak s) (R s) (Is (v s)))
  (ha:∀ s,evs (K s) xs.toList=some (ak s)) (hR:∀ s,C s→∀ w,Mr w0 gs (E s++L0) w→R s w) (dep:Dp ops i v)
  (h:DQ P w0 gs n fl Q ops L0 tail (i+1) rest C (fun s=>(d,v s)::K s) N) (hfl:fl.contains i=false:=by rfl) (hw:∀ s,wk ops (K s) gd=some true:=by intro _;rfl) (hd:Nat.blt d n=true:=by rfl) :
  DQ P w0 gs n fl Q ops L0 tail i (⟨some d,.call { callee:=.value (.func f),args:=xs,argTypes:=ats },ty,pos,after,gd⟩::rest) C K N :=
 DQ.step (fun s=>.val (v s)) (fun _=>[]) (fun s s' hs=>by simp only[dep s s' hs]) (fun _=>⟨fun _=>0,trivial⟩)
  (fun s a w F hC _ _ hk hme hF=>⟨yO (o:=⟨some d,.call { callee:=.value (.func f),args:=xs,argTypes:=ats },ty,pos,after,gd⟩) hk (hw s),.inr ⟨hfl,fun w' hb hf=>by
   have hm:=(hme.below hb).mr;have hm' : Mr w0 gs (E s++L0) w':=⟨hm.mod,fun e he=>by
    rcases List.mem_append.1 he with he|he
    ·obtain⟨j,h1,h2⟩:=(hE s).mem e he;exact hF j w' (hf j h2) e h1
    ·exact hm.ok e he⟩
   refine kyp_call (f:=f) (args:=(ak s).toArray) (by have:=vz (P:=P) (f:=f) (ty:=ty) (pos:=pos) (after:=after) (gd:=gd) (dst:=some d) (ats:=ats) (x:=.func f) (w:=w') (fs:=[]) (cs:=[]) hk rfl (ha s);simpa using this) ((hc s hC w' (hR s hC w' hm')).mono ?_);rintro e w'' ⟨u,N',rfl,h1,_,h2⟩;exact⟨u,rfl,h2,h1⟩⟩⟩)
  (fun s a hsz hk => hk.put (by have : d < n := by simpa [Nat.blt_eq] using hd
                                omega) (v s)) (fun _ h _=>h) (fun _=>rfl) (fun _=>rfl) (fun _ _ _=>by simp) h
theorem DQ.call {f:FuncId} [Cal P f] {xs:Array Operand} {ats:Array TypeId} {ak:zW→List Value} {R:zW→World→Prop} {v:zW→Value} (hc:∀ s,C s→Fn P f (ak s) (R s) (Is (v s)))
  (ha:∀ s,evs (K s) xs.toList=some (ak s)) (hR:∀ s,C s→∀ w,Mr w0 gs L0 w→R s w) (dep:Dp ops i v)
  (h:DQ P w0 gs n fl Q ops L0 tail (i+1) rest C (fun s=>(d,v s)::K s) N) (hfl:fl.contains i=false:=by rfl) (hw:∀ s,wk ops (K s) gd=some true:=by intro _;rfl) (hd:Nat.blt d n=true:=by rfl) :
  DQ P w0 gs n fl Q ops L0 tail i (⟨some d,.call { callee:=.value (.func f),args:=xs,argTypes:=ats },ty,pos,after,gd⟩::rest) C K N :=
 DQ.callE (fun _=>[]) (fun _=>.nil) hc ha hR dep h hfl hw hd
theorem DQ.callsE {f:FuncId} [Cal P f] {x:Operand} {xs:Array Operand} {ats:Array TypeId} {ak fs cs ak' : zW→List Value} {R:zW→World→Prop} {vf:zW→(Nat→Nat)→Value} {Nf:zW→(Nat→Nat)→List Ent} {S:zW→(Nat→Nat)→Prop} (E:zW→List Ent) (hE:∀ s,Vs ops i (N s) (E s)) (hS:∀ s,∃ x,S s x)
  (hc:∀ s,C s→Fn P f (ak' s) (R s) (Ex (vf s) (Nf s) (S s))) (hx:∀ s,ev (K s) x=some (.func (.func f) (fs s).toArray (cs s).toArray))
  (ha:∀ s,evs (K s) xs.toList=some (ak s)) (hh:∀ s,fs s++ak s++cs s=ak' s) (hR:∀ s,C s→∀ w,Mr w0 gs (E s++L0) w→R s w) (dep:Dp ops i vf) (depN:Dp ops i Nf) (depS:Dp ops i S)
  (h:DQ P w0 gs n fl Q ops L0 tail (i+1) rest (fun s=>C s∧S s (s i)) (fun s=>(d,vf s (s i))::K s) (fun s=>(Nf s (s i)).map (fun e=>(i,e))++N s)) (hfl:fl.contains i=false:=by rfl) (hw:∀ s,wk ops (K s) gd=some true:=by intro _;rfl) (hd:Nat.blt d n=true:=by rfl) :
  DQ P w0 gs n fl Q ops L0 tail i (⟨some d,.call { callee:=.value x,args:=xs,argTypes:=ats },ty,pos,after,gd⟩::rest) C K N :=
 DQ.step (fun s=>.rel (vf s) (S s) (fun x w=>(∀ e∈Nf s x,e.ok w)∧((Nf s x).map Ent.g).Nodup) (fun x=>(Nf s x).map Ent.g)) (fun s=>Nf s (s i))
  (fun s s' hs=>by simp only[dep s s' hs,depN s s' hs,depS s s' hs]) hS
  (fun s a w F hC _ _ hk hme hF=>⟨hfl,yO (o:=⟨some d,.call { callee:=.value x,args:=xs,argTypes:=ats },ty,pos,after,gd⟩) hk (hw s),hS s,fun x w w' ⟨h1,h2⟩ hb=>⟨fun e he=>(h1 e he).keep (hb.block e.g (h1 e he).lt),h2⟩,fun w' hb hf=>by
   have hm:=(hme.below hb).mr;have hm' : Mr w0 gs (E s++L0) w':=⟨hm.mod,fun e he=>by
    rcases List.mem_append.1 he with he|he
    ·obtain⟨j,h1,h2⟩:=(hE s).mem e he;exact hF j w' (hf j h2) e h1
    ·exact hm.ok e he⟩
   refine kyp_call (f:=f) (args:=(ak' s).toArray) (by have:=vz (P:=P) (f:=f) (ty:=ty) (pos:=pos) (after:=after) (gd:=gd) (dst:=some d) (ats:=ats) (w:=w') hk (hx s) (ha s);rw[hh s] at this;exact this) ((hc s hC w' (hR s hC w' hm')).mono ?_);rintro e w'' ⟨u,N',rfl,h1,h2,x,rfl,rfl,h3⟩;refine⟨_,rfl,x,rfl,h3,⟨h2.ok,h2.nodup⟩,h1,fun g hg=>?_⟩;obtain⟨e,he,rfl⟩:=List.mem_map.1 hg;exact⟨h2.new e he,(h2.ok e he).lt⟩⟩)
  (fun s a hsz hk => hk.put (by have : d < n := by simpa [Nat.blt_eq] using hd
                                omega) (vf s (s i))) (fun _ h hs=>⟨h,hs⟩) (fun _=>rfl) (fun _=>rfl) (fun _ _ hh=>hh) h
theorem WC.draw {K:List (Nat × Value)} {L:List Ent} {id:Nat} {l hd tl:List Oper} [Mix P] (h:Nat) (hB:yH l [] h=true) (h1:l.take h=hd) (h2:l.drop h=tl)
  (k:DQ P w0 gs n [] Q l L tl 0 hd (fun _=>True) (fun _=>K) (fun _=>[])):WC P w0 gs n (.region id l.toArray true) Q K L:=by
 intro a w hdf hsz hk hme;subst h1;subst h2;obtain⟨ks,k1,k2,k3⟩:=k;exact tw [] h ks Mix.out hB (.inl rfl) (fun i=>k1 i (Nat.zero_le _)) (fun i s=>k2 i s (Nat.zero_le _)) (fun s=>k3 s a w _ _ trivial hdf hsz hk hme .nil (by simp) (fun _ _ _=>trivial) (by simp) (by simp))
theorem WC.drawF {K:List (Nat × Value)} {L:List Ent} {id:Nat} {l hd tl:List Oper} [Mix P] (fl:List Nat) (h:Nat) (hB:yH l fl h=true) (h1:l.take h=hd) (h2:l.drop h=tl)
  (k:DQ P w0 gs n fl (NoPanic Q) l L tl 0 hd (fun _=>True) (fun _=>K) (fun _=>[])):WC P w0 gs n (.region id l.toArray true) Q K L:=by
 intro a w hdf hsz hk hme;subst h1;subst h2;obtain⟨ks,k1,k2,k3⟩:=k;exact wp_region_noPanic (tw fl h ks Mix.out hB (.inr (fun _ _ _ _ _ h=>h.elim)) (fun i=>k1 i (Nat.zero_le _)) (fun i s=>k2 i s (Nat.zero_le _)) (fun s=>k3 s a w _ _ trivial hdf hsz hk hme .nil (by simp) (fun _ _ _=>trivial) (by simp) (by simp)))
theorem WX.noPanic {K:List (Nat × Value)} {L:List Ent} (k:WX w0 gs n .normal Q K L):WX w0 gs n .normal (NoPanic Q) K L:=k
end
end Sx
end
section
open Go Go.RowKit Go.BigFrame
namespace Sx
class ahl (P:Program) (t:TypeId):Prop where
 under:P.underlying t=some .string
def fieldsOf (P:Program) (t:TypeId):Array Field:=match P.underlying t with
 | some (.struct fs)=>fs
 | _=>#[]
class BuT (P:Program) (t:TypeId) (places:outParam (List (Nat × Nat))) (z:outParam (List Value)):Prop where
 zero:∀ w,(zeroValue t).run P w=.ok (.agg z.toArray) w
 under:P.underlying t=some (.struct (fieldsOf P t))
 places:∀ w,((fieldsOf P t).mapM (fun f=>do pure (f.offset,← sizeOf f.type):Field→Sem (Nat × Nat))).run P w=.ok places.toArray w
theorem BuT.build {P:Program} {t:TypeId} {places:List (Nat × Nat)} {z:List Value} [h:BuT P t places z] (w:World) (xs:Array (Nat × Value)) (cs:Array Value) (hf:Instr.fill (fun i=>places.toArray[i]?) z.toArray xs.toList=some cs) :
  (Instr.build t xs).run P w=.ok (.agg cs) w:=by
 have hu:∀ w,(underlying t).run P w=.ok (.struct (fieldsOf P t)) w:=fun w=>by simp[underlying,h.under]
 unfold Instr.build;simp only[Sem.run_bind,h.zero,Result.andThen_ok,hu,h.places,Value.cells,hf,Sem.run_pure]
theorem ju {P:Program} {t len elem size:Nat} {z:List Value} {v:Value} [h:ArT P t len elem size] [hz:ZeT P t v] (hv:v=.agg z.toArray) (w:World) (xs:Array (Nat × Value)) (cs:Array Value) (hf:Instr.fill (fun i=>some (i*size,size)) z.toArray xs.toList=some cs) :
  (Instr.build t xs).run P w=.ok (.agg cs) w:=by
 have hu:∀ w,(underlying t).run P w=.ok (.array len elem) w:=fun w=>by simp[underlying,h.under]
 subst hv;unfold Instr.build;simp only[Sem.run_bind,hz.zero,Result.andThen_ok,hu,h.size,Value.cells,hf,Sem.run_pure]
class FiT (P:Program) (s:TypeId) (i:Nat) (off t:outParam Nat):Prop where
 field:∀ w cs,(Instr.field s (.agg cs) i).run P w=(part t cs off).run P w
def rc (place:Nat→Option (Nat × Nat)):List Value→List (Nat × Value)→Option (List Value)
 | cs,[]=>some cs
 | cs,(i,v)::r=>match place i with
  | none=>none
  | some (off,size)=>bif Nat.beq (cellsOf v).length size && Nat.ble (off+(cellsOf v).length) cs.length then rc place (over cs off (cellsOf v)) r else none
theorem pv (off:Nat):∀ (vs:List Value) (i:Nat) (cs:List Value),off+i+vs.length≤cs.length →
  (vs.zipIdx i).foldl (fun (a:Array Value) (p:Value × Nat)=>a.setIfInBounds (off+p.2) p.1) cs.toArray=(over cs (off+i) vs).toArray
 | [],i,cs,_=>by simp[over]
 | v::r,i,cs,h=>by
  simp only[List.length_cons] at h;rw[List.zipIdx_cons,List.foldl_cons];simp only[List.setIfInBounds_toArray];rw[pv off r (i+1) (cs.set (off+i) v) (by simp;omega)];congr 1;have hlt:off+i<cs.length:=by omega
  unfold over;rw[show off+(i+1)=off+i+1 by omega];simp only[List.length_cons];have h1:(cs.set (off+i) v).take (off+i+1)=cs.take (off+i)++[v]:=by
   rw[List.take_succ_eq_append_getElem (by simpa using hlt)];simp[List.take_set_of_le]
  have h2:(cs.set (off+i) v).drop (off+i+1+r.length)=cs.drop (off+i+(r.length+1)):=by
   rw[List.drop_set_of_lt Om,show off+i+1+r.length=off+i+(r.length+1) by omega]
  rw[h1,h2];simp
theorem nJ {place place' : Nat→Option (Nat × Nat)} (hp:∀ i,place i=place' i):∀ (xs:List (Nat × Value)) (cs cs' : List Value),rc place cs xs=some cs'→Instr.fill place' cs.toArray xs=some cs'.toArray
 | [],cs,cs',h=>by cases h;rfl
 | (i,v)::r,cs,cs',h=>by
  unfold rc at h;unfold Instr.fill;rw[hp i] at h;cases hpl:place' i with
  | none=>rw[hpl] at h;cases h
  | some q =>
   obtain⟨off,size⟩:=q;rw[hpl] at h;simp only at h ⊢;cases hb:(Nat.beq (cellsOf v).length size && Nat.ble (off+(cellsOf v).length) cs.length) with
   | false=>rw[hb] at h;cases h
   | true =>
    rw[hb] at h;simp only[cond_true,Bool.and_eq_true] at h hb;have h1:(cellsOf v).length=size:=Nat.eq_of_beq_eq_true hb.1;have h2:off+(cellsOf v).length≤cs.length:=Nat.le_of_ble_eq_true hb.2;have e:v.cells.size=(cellsOf v).length:=by rw[vI];simp
    rw[e,if_neg (by simp[h1];omega)];have:=pv off (cellsOf v) 0 cs Om;rw[vI];simp only[Nat.add_zero] at this;have hz:(cellsOf v).toArray.zipIdx.foldl (fun (a:Array Value) (p:Value × Nat)=>a.setIfInBounds (off+p.2) p.1) cs.toArray=(over cs off (cellsOf v)).toArray:=by
     rw[← this];simp[← Array.foldl_toList]
    have:=nJ hp r (over cs off (cellsOf v)) cs' h;rw[← hz] at this;exact this
def evp (K:List (Nat × Value)):List (Nat × Operand)→Option (List (Nat × Value))
 | []=>some []
 | (i,x)::r=>match ev K x with
  | some v=>match evp K r with
   | some vs=>some ((i,v)::vs)
   | none=>none
  | none=>none
theorem Kn.evp {K:List (Nat × Value)} {a:Act} (h:Kn K a):∀ {xs:List (Nat × Operand)} {vs:List (Nat × Value)},evp K xs=some vs→xs.map (fun (i,x)=>(i,a.eval x))=vs
 | [],vs,hx=>by cases hx;rfl
 | (i,x)::r,vs,hx=>by
  unfold Sx.evp at hx;cases h1:ev K x with
  | none=>rw[h1] at hx;cases hx
  | some v =>
   cases h2:Sx.evp K r with
   | none=>rw[h1,h2] at hx;cases hx
   | some us =>
    rw[h1,h2] at hx;cases hx;simp only[List.map_cons,h.eval h1];rw[h.evp h2]
section
variable {P:Program} {w0:World} {gs:List Nat} {K:List (Nat × Value)} {L:List Ent}
theorem kH {t ty:TypeId} {places:List (Nat × Nat)} {z cs:List Value} {xs:Array (Nat × Operand)} {vs:List (Nat × Value)} [BuT P t places z] (h1:evp K xs.toList=some vs) (h2:rc (nth places) z vs=some cs) :
  Does P w0 gs K L (.build t xs) ty (.agg cs.toArray):=by
 intro a w hk _ o ho _;have e:=hk.evp h1;have e' : (xs.map fun (i,x)=>(i,a.eval x)).toList=vs:=by simpa using e
 have hb:=BuT.build (P:=P) (t:=t) w (xs.map fun (i,x)=>(i,a.eval x)) cs.toArray (by rw[e'];exact nJ (fun i=>by rw[uI];simp) vs z cs h2);simp only[execOp,ho,Sem.run_bind];rw[hb];rfl
theorem zz {t ty len elem size:Nat} {z cs:List Value} {zv:Value} {xs:Array (Nat × Operand)} {vs:List (Nat × Value)} [ArT P t len elem size] [ZeT P t zv] (hz:zv=.agg z.toArray) (h1:evp K xs.toList=some vs) (h2:rc (fun i=>some (i*size,size)) z vs=some cs) :
  Does P w0 gs K L (.build t xs) ty (.agg cs.toArray):=by
 intro a w hk _ o ho _;have e:=hk.evp h1;have e' : (xs.map fun (i,x)=>(i,a.eval x)).toList=vs:=by simpa using e
 have hb:=ju (P:=P) (t:=t) (size:=size) hz w (xs.map fun (i,x)=>(i,a.eval x)) cs.toArray (by rw[e'];exact nJ (fun i=>rfl) vs z cs h2);simp only[execOp,ho,Sem.run_bind];rw[hb];rfl
theorem eC {s i off t n ty:Nat} {x:Operand} {cs vs:List Value} [FiT P s i off t] [AgT P t n] (hx:ev K x=some (.agg cs.toArray)) (hc:cut cs off n=vs) :
  Does P w0 gs K L (.field s x i) ty (.agg vs.toArray):=by
 intro a w hk _ o ho _;subst hc;simp only[execOp,ho,hk.eval hx,Sem.run_bind,FiT.field (P:=P) (s:=s) (i:=i),part,AgT.agg (P:=P) (t:=t) w,Result.andThen_ok,if_true,AgT.size (P:=P) (t:=t) w,Sem.run_pure];simp[cut,List.extract_eq_take_drop]
theorem kX {s i off t ty:Nat} {x:Operand} {cs:List Value} {v:Value} [FiT P s i off t] [OnT P t] (hx:ev K x=some (.agg cs.toArray)) (hc:cs[off]?=some v) :
  Does P w0 gs K L (.field s x i) ty v:=by
 intro a w hk _ o ho _;have:cs.toArray[off]?=some v:=by simpa using hc
 simp only[execOp,ho,hk.eval hx,Sem.run_bind,FiT.field (P:=P) (s:=s) (i:=i),part,OnT.agg (P:=P) (t:=t) w,Result.andThen_ok,Bool.false_eq_true,if_false,this,Sem.run_pure]
end
end Sx
end
section
open Go.RowKit
theorem kf (x y c:Nat) (hc:c≤1) (w:World) :
  (callFunc 228 #[.int .u64 x,.int .u64 y,.int .u64 c]).run Tryz.prog w =
   .ok (.value (.tuple #[.int .u64 (((x+y+c)%18446744073709551616:Nat):Int),.int .u64 (((x+y+c) / 18446744073709551616:Nat):Int)])) w:=by
 rw[run_callFunc_extern (Tryz.func228) (by kernel_rfl) (by kernel_rfl) (by kernel_rfl) (e:=add64Entry) (by kernel_rfl),run_add64 x y c Om Om Om Om];simp only[Result.andThen];congr 5<;>omega
def cy (a b:Nat):Nat→Nat
 | 0=>0
 | k+1=>(wd k a+wd k b+cy a b k) / 18446744073709551616
def sw (a b k:Nat):Nat:=(wd k a+wd k b+cy a b k)%18446744073709551616
theorem ahJ (a b k:Nat):cy a b k≤1:=by
 induction k with
 | zero=>exact Nat.zero_le _
 | succ k ih=>have:=yj k a;have:=yj k b;simp only[cy];omega
def u64 (n:Nat):Value:=.int .u64 ((n:Nat):Int)
def vY (a b k:Nat):List Value:=[if 0<k then .int .u64 (sw a b 0:Nat) else .int .u64 0,if 1<k then .int .u64 (sw a b 1:Nat) else .int .u64 0,if 2<k then .int .u64 (sw a b 2:Nat) else .int .u64 0,if 3<k then .int .u64 (sw a b 3:Nat) else .int .u64 0]
theorem vj (a:Nat) {k:Nat} (h:k<4):(zc a)[k]?=some (.int .u64 (wd k a:Nat)):=by
 have:k=0∨k=1∨k=2∨k=3:=by omega
 rcases this with rfl|rfl|rfl|rfl<;>rfl
theorem im (a b:Nat) {k:Nat} (h:k<4):(vY a b k)[k]?=some (.int .u64 0):=by
 have:k=0∨k=1∨k=2∨k=3:=by omega
 rcases this with rfl|rfl|rfl|rfl<;>rfl
theorem aaV (a b:Nat) {k:Nat} (h:k<4):(vY a b k).set k (.int .u64 (sw a b k:Nat))=vY a b (k+1):=by
 have:k=0∨k=1∨k=2∨k=3:=by omega
 rcases this with rfl|rfl|rfl|rfl<;>rfl
set_option maxRecDepth 100000 in
theorem lL (a b:Nat) (ha:a<zd) (hbb:b<zd) (w:World) :
  Calls Tryz.prog 203 #[zk a,zk b] w fun e w'=>e=.returned (.tuple #[zk ((a+b)%zd),.int .u64 (((a+b) / zd:Nat):Int)])∧Below w.heap.size w w':=by
 have hA:=kf
 go_enter Tryz.func203,Tryz.ntmps203
 go_wp2;generalize hW:((w.alloc _).alloc _).alloc _=W;have hg0:Blk W w.heap.size 24 (zc a):=by subst hW;exact ((Blk.new _ _ _).alloc _).alloc _
 have hg1:Blk W (w.heap.size+1) 24 (zc b):=by subst hW;exact (Blk.new' (by simp)).alloc _
 have hg2:Blk W (w.heap.size+1+1) 24 (vY a b 0):=by subst hW;exact Blk.new' (by simp)
 have hb:Below w.heap.size w W:=by subst hW;exact (((Below.refl _ _).alloc (Nat.le_refl _) _).alloc (by simp) _).alloc (by simp;omega) _
 clear hW
 go_loopw [5,7] (fun c i wr=>∃ k:Nat,k≤4∧i=.int .i64 k∧c=.int .u64 (cy a b k:Nat)∧Blk wr w.heap.size 24 (zc a)∧Blk wr (w.heap.size+1) 24 (zc b)∧Blk wr (w.heap.size+1+1) 24 (vY a b k)∧Below w.heap.size w wr) (fun _ i _=>4 - (intOf i).toNat)
 case atStart=>exact⟨0,by omega,rfl,rfl,hg0,hg1,hg2,hb⟩
 case round =>
  clear hg0 hg1 hg2 hb;obtain⟨k,hk,rfl,rfl,hg0,hg1,hg2,hb⟩:=hrel;have hc:=ahJ a b k
  by_cases hlt:k<4
  ·have c0:=hg0.cell_at (vj a hlt);have c1:=hg1.cell_at (vj b hlt);have c2:=hg2.cell_at (im a b hlt);have f2:=hg2.frozen k;go_wp2;have lt0:=hg0.lt;have lt1:=hg1.lt;have lt2:=hg2.lt;refine Kp.wp_region_kpf [11] 13 (by kernel_rfl) (by kernel_rfl) (fun L Fin hL hFin=>?_);have HL:=Lib.hid hL;clear hL;have HF:=Lib.hid hFin;clear hFin;simp only[List.take_succ_cons,List.take_zero,List.drop_succ_cons,List.drop_zero];apply Exists.intro
   repeat ((first|(apply Kp.kp_free;(first|rfl|(rw[HL.out];rfl));(intro w1;go_simp;rfl))|(apply Kp.kp_now;rfl;(first|rfl|(rw[HL.out];rfl));(intro w1 hb1;obtain⟨hcw,hfw⟩:=uJ hb1;clear hb1;go_simp;rfl)));simp only[Act.put,List.setIfInBounds_toArray,List.set_cons_succ,List.set_cons_zero])
   apply Kp.kp_nil;refine HF.out _ _ (fun w1 hb1 _=>?_);clear HL HF;simp only[List.drop_succ_cons,List.drop_zero];have c3:=(hg2.below hb1 lt2).cell_at (im a b hlt);have f3:=(hg2.below hb1 lt2).frozen k;go_wp2;refine NoPanic.normal ?_;go_wp2
   go_roundw
   case rel =>
    refine⟨k+1,by omega,by go_num,?_,(hg0.below hb1 lt0).far (by simp;omega) _,(hg1.below hb1 lt1).far (by simp) _,?_,(hb.trans (hb1.mono hb.size)).setCell (by simp;omega) _⟩
    ·simp[cy]
    ·rw[← aaV a b hlt];exact (hg2.below hb1 lt2).set_ k _
   case measure=>simp[intOf];omega
  ·obtain rfl:k=4:=by omega
   have d0:wr.cell? ⟨w.heap.size+1+1,0,none⟩=some (.int .u64 ((sw a b 0:Nat):Int)):=hg2.cell_at rfl;have d1:wr.cell? ⟨w.heap.size+1+1,1,none⟩=some (.int .u64 ((sw a b 1:Nat):Int)):=hg2.cell_at rfl;have d2:wr.cell? ⟨w.heap.size+1+1,2,none⟩=some (.int .u64 ((sw a b 2:Nat):Int)):=hg2.cell_at rfl;have d3:wr.cell? ⟨w.heap.size+1+1,3,none⟩=some (.int .u64 ((sw a b 3:Nat):Int)):=hg2.cell_at rfl;have ff:=hg2.frozen;clear hA;go_wp2;have hs:=ba a b ha hbb (sw a b 0) (sw a b 1) (sw a b 2) (sw a b 3) (cy a b 1) (cy a b 2) (cy a b 3) (cy a b 4) (by simp[sw,cy]) (by simp[cy]) rfl rfl rfl rfl rfl rfl;have hlt:=fun i=>Nat.mod_lt (wd i a+wd i b+cy a b i) (show 0<18446744073709551616 by omega);have hv:=tZ (hlt 0) (hlt 1) (hlt 2) (hlt 3);have ev:Value.agg #[.int .u64 ((sw a b 0:Nat):Int),.int .u64 ((sw a b 1:Nat):Int),.int .u64 ((sw a b 2:Nat):Int),.int .u64 ((sw a b 3:Nat):Int)]=zk ((a+b)%zd):=by rw[← hs.1];exact hv
   refine bodyPost_ret (v:=.tuple #[zk ((a+b)%zd),.int .u64 (((a+b) / zd:Nat):Int)]) ?_ rfl ⟨rfl,?_⟩
   ·rw[← ev,← hs.2];simp[results,Tryz.results203,go_sem,d0,d1,d2,d3]
   ·refine ((((hb.setCell ?_ _).setCell ?_ _).setCell ?_ _).setCell ?_ _)<;>(simp;omega)
def bw (x y c:Nat):Nat:=if x<y+c then 1 else 0
theorem bg (x y b:Nat) (hb:b≤1) (w:World) :
  (callFunc 114 #[.int .u64 x,.int .u64 y,.int .u64 b]).run Tryz.prog w =
   .ok (.value (.tuple #[.int .u64 (((x+18446744073709551616 - y - b)%18446744073709551616:Nat):Int),.int .u64 ((bw x y b:Nat):Int)])) w:=by
 rw[run_callFunc_extern (Tryz.func114) (by kernel_rfl) (by kernel_rfl) (by kernel_rfl) (e:=sub64Entry) (by kernel_rfl),run_sub64 x y b hb];rfl
def br (a b:Nat):Nat→Nat
 | 0=>0
 | k+1=>bw (wd k a) (wd k b) (br a b k)
def sb (a b k:Nat):Nat:=(wd k a+18446744073709551616 - wd k b - br a b k)%18446744073709551616
theorem ahG (a b k:Nat):br a b k≤1:=by
 cases k with
 | zero=>exact Nat.zero_le _
 | succ k=>simp only[br,bw];split<;>omega
theorem rh (x y c:Nat) (hx:x<18446744073709551616) (hy:y<18446744073709551616) (hc:c≤1) :
  (x+18446744073709551616 - y - c)%18446744073709551616+y+c=x+18446744073709551616*(if x<y+c then 1 else 0)∧(x+18446744073709551616 - y - c)%18446744073709551616<18446744073709551616∧(if x<y+c then 1 else 0:Nat)≤1:=by
 split<;>omega
theorem afA (S A B M c:Nat) (hS:S<M) (hA:A<M) (hB:B<M) (hc:c≤1) (h:S+B=A+M*c):S=(A+M - B)%M∧c=if A<B then 1 else 0:=by
 have:c=0∨c=1:=by omega
 rcases this with rfl|rfl
 ·rw[show A+M - B=S+M by omega,Nat.add_mod_right,Nat.mod_eq_of_lt hS,if_neg Om];exact⟨rfl,rfl⟩
 ·rw[show A+M - B=S by omega,Nat.mod_eq_of_lt hS,if_pos Om];exact⟨rfl,rfl⟩
theorem eU (a b:Nat) (ha:a<zd) (hb:b<zd) (s0 s1 s2 s3 c1 c2 c3 c4:Nat)
  (e0:s0=(wd 0 a+18446744073709551616 - wd 0 b - 0)%18446744073709551616) (f0:c1=if wd 0 a<wd 0 b+0 then 1 else 0)
  (e1:s1=(wd 1 a+18446744073709551616 - wd 1 b - c1)%18446744073709551616) (f1:c2=if wd 1 a<wd 1 b+c1 then 1 else 0)
  (e2:s2=(wd 2 a+18446744073709551616 - wd 2 b - c2)%18446744073709551616) (f2:c3=if wd 2 a<wd 2 b+c2 then 1 else 0)
  (e3:s3=(wd 3 a+18446744073709551616 - wd 3 b - c3)%18446744073709551616) (f3:c4=if wd 3 a<wd 3 b+c3 then 1 else 0) :
  tk s0 s1 s2 s3=(a+zd - b)%zd∧c4=bw a b 0:=by
 have h1:=vR ha;have h2:=vR hb;have:=yj 0 a;have:=yj 1 a;have:=yj 2 a;have:=yj 3 a;have:=yj 0 b;have:=yj 1 b;have:=yj 2 b;have:=yj 3 b;generalize wd 0 a=a0 at *;generalize wd 1 a=a1 at *;generalize wd 2 a=a2 at *;generalize wd 3 a=a3 at *;generalize wd 0 b=b0 at *;generalize wd 1 b=b1 at *;generalize wd 2 b=b2 at *;generalize wd 3 b=b3 at *;obtain⟨g0,l0,m0⟩:=rh a0 b0 0 Om Om Om;rw[← e0,← f0] at g0;rw[← e0] at l0;rw[← f0] at m0;obtain⟨g1,l1,m1⟩:=rh a1 b1 c1 Om Om Om;rw[← e1,← f1] at g1;rw[← e1] at l1;rw[← f1] at m1;obtain⟨g2,l2,m2⟩:=rh a2 b2 c2 Om Om Om;rw[← e2,← f2] at g2;rw[← e2] at l2;rw[← f2] at m2;obtain⟨g3,l3,m3⟩:=rh a3 b3 c3 Om Om Om;rw[← e3,← f3] at g3;rw[← e3] at l3;rw[← f3] at m3;have key:tk s0 s1 s2 s3+b=a+zd*c4:=by
  rw[← h1,← h2];clear e0 e1 e2 e3 f0 f1 f2 f3 h1 h2 ha hb l0 l1 l2 l3 m0 m1 m2 m3;simp only[tk,zd];omega
 have hs:=je l0 l1 l2 l3;clear e0 e1 e2 e3 f0 f1 f2 f3 h1 h2 g0 g1 g2 g3 l0 l1 l2 l3 m0 m1 m2;simp only[bw,Nat.add_zero];exact afA _ _ _ _ _ hs ha hb m3 key
def agi (a b k:Nat):List Value:=[if 0<k then .int .u64 (sb a b 0:Nat) else .int .u64 0,if 1<k then .int .u64 (sb a b 1:Nat) else .int .u64 0,if 2<k then .int .u64 (sb a b 2:Nat) else .int .u64 0,if 3<k then .int .u64 (sb a b 3:Nat) else .int .u64 0]
theorem ir (a b:Nat) {k:Nat} (h:k<4):(agi a b k)[k]?=some (.int .u64 0):=by
 have:k=0∨k=1∨k=2∨k=3:=by omega
 rcases this with rfl|rfl|rfl|rfl<;>rfl
theorem acV (a b:Nat) {k:Nat} (h:k<4):(agi a b k).set k (.int .u64 (sb a b k:Nat))=agi a b (k+1):=by
 have:k=0∨k=1∨k=2∨k=3:=by omega
 rcases this with rfl|rfl|rfl|rfl<;>rfl
set_option maxRecDepth 100000 in
theorem tX (a b:Nat) (ha:a<zd) (hbb:b<zd) (w:World) :
  Calls Tryz.prog 54 #[zk a,zk b] w fun e w'=>e=.returned (.tuple #[zk ((a+zd - b)%zd),.int .u64 ((bw a b 0:Nat):Int)])∧Below w.heap.size w w':=by
 have hA:=bg
 go_enter Tryz.func54,Tryz.ntmps54
 go_wp2;generalize hW:((w.alloc _).alloc _).alloc _=W;have hg0:Blk W w.heap.size 24 (zc a):=by subst hW;exact ((Blk.new _ _ _).alloc _).alloc _
 have hg1:Blk W (w.heap.size+1) 24 (zc b):=by subst hW;exact (Blk.new' (by simp)).alloc _
 have hg2:Blk W (w.heap.size+1+1) 24 (agi a b 0):=by subst hW;exact Blk.new' (by simp)
 have hb:Below w.heap.size w W:=by subst hW;exact (((Below.refl _ _).alloc (Nat.le_refl _) _).alloc (by simp) _).alloc (by simp;omega) _
 clear hW
 go_loopw [5,7] (fun c i wr=>∃ k:Nat,k≤4∧i=.int .i64 k∧c=.int .u64 (br a b k:Nat)∧Blk wr w.heap.size 24 (zc a)∧Blk wr (w.heap.size+1) 24 (zc b)∧Blk wr (w.heap.size+1+1) 24 (agi a b k)∧Below w.heap.size w wr) (fun _ i _=>4 - (intOf i).toNat)
 case atStart=>exact⟨0,by omega,rfl,rfl,hg0,hg1,hg2,hb⟩
 case round =>
  clear hg0 hg1 hg2 hb;obtain⟨k,hk,rfl,rfl,hg0,hg1,hg2,hb⟩:=hrel;have hc:=ahG a b k
  by_cases hlt:k<4
  ·have c0:=hg0.cell_at (vj a hlt);have c1:=hg1.cell_at (vj b hlt);have c2:=hg2.cell_at (ir a b hlt);have f2:=hg2.frozen k;go_wp2;have lt0:=hg0.lt;have lt1:=hg1.lt;have lt2:=hg2.lt;refine Kp.wp_region_kpf [11] 13 (by kernel_rfl) (by kernel_rfl) (fun L Fin hL hFin=>?_);have HL:=Lib.hid hL;clear hL;have HF:=Lib.hid hFin;clear hFin;simp only[List.take_succ_cons,List.take_zero,List.drop_succ_cons,List.drop_zero];apply Exists.intro
   repeat ((first|(apply Kp.kp_free;(first|rfl|(rw[HL.out];rfl));(intro w1;go_simp;rfl))|(apply Kp.kp_now;rfl;(first|rfl|(rw[HL.out];rfl));(intro w1 hb1;obtain⟨hcw,hfw⟩:=uJ hb1;clear hb1;go_simp;rfl)));simp only[Act.put,List.setIfInBounds_toArray,List.set_cons_succ,List.set_cons_zero])
   apply Kp.kp_nil;refine HF.out _ _ (fun w1 hb1 _=>?_);clear HL HF;simp only[List.drop_succ_cons,List.drop_zero];have c3:=(hg2.below hb1 lt2).cell_at (ir a b hlt);have f3:=(hg2.below hb1 lt2).frozen k;go_wp2;refine NoPanic.normal ?_;go_wp2
   go_roundw
   case rel =>
    refine⟨k+1,by omega,by go_num,?_,(hg0.below hb1 lt0).far (by simp;omega) _,(hg1.below hb1 lt1).far (by simp) _,?_,(hb.trans (hb1.mono hb.size)).setCell (by simp;omega) _⟩
    ·simp[br]
    ·rw[← acV a b hlt];exact (hg2.below hb1 lt2).set_ k _
   case measure=>simp[intOf];omega
  ·obtain rfl:k=4:=by omega
   have d0:wr.cell? ⟨w.heap.size+1+1,0,none⟩=some (.int .u64 ((sb a b 0:Nat):Int)):=hg2.cell_at rfl;have d1:wr.cell? ⟨w.heap.size+1+1,1,none⟩=some (.int .u64 ((sb a b 1:Nat):Int)):=hg2.cell_at rfl;have d2:wr.cell? ⟨w.heap.size+1+1,2,none⟩=some (.int .u64 ((sb a b 2:Nat):Int)):=hg2.cell_at rfl;have d3:wr.cell? ⟨w.heap.size+1+1,3,none⟩=some (.int .u64 ((sb a b 3:Nat):Int)):=hg2.cell_at rfl;have ff:=hg2.frozen;clear hA;go_wp2;have hs:=eU a b ha hbb (sb a b 0) (sb a b 1) (sb a b 2) (sb a b 3) (br a b 1) (br a b 2) (br a b 3) (br a b 4) rfl rfl rfl rfl rfl rfl rfl rfl;have hlt:=fun i=>Nat.mod_lt (wd i a+18446744073709551616 - wd i b - br a b i) (show 0<18446744073709551616 by omega);have hv:=tZ (hlt 0) (hlt 1) (hlt 2) (hlt 3);have ev:Value.agg #[.int .u64 ((sb a b 0:Nat):Int),.int .u64 ((sb a b 1:Nat):Int),.int .u64 ((sb a b 2:Nat):Int),.int .u64 ((sb a b 3:Nat):Int)]=zk ((a+zd - b)%zd):=by rw[← hs.1];exact hv
   refine bodyPost_ret (v:=.tuple #[zk ((a+zd - b)%zd),.int .u64 ((bw a b 0:Nat):Int)]) ?_ rfl ⟨rfl,?_⟩
   ·rw[← ev,← hs.2];simp[results,Tryz.results54,go_sem,d0,d1,d2,d3]
   ·refine ((((hb.setCell ?_ _).setCell ?_ _).setCell ?_ _).setCell ?_ _)<;>(simp;omega)
end
section
open Go.RowKit
theorem acY (n:Nat) (h:n<18446744073709551616):n<zd:=by unfold zd;omega
theorem sk (n:Nat) (h:n<18446744073709551616):Value.agg #[.int .u64 (n:Int),.int .u64 0,.int .u64 0,.int .u64 0]=zk n:=by
 have:=tZ h (by omega:0<18446744073709551616) (by omega:0<18446744073709551616) (by omega:0<18446744073709551616);simpa [tk] using this
theorem j5 (n:Nat) (h:n<18446744073709551616) (w:World) :
  Calls Tryz.prog 52 #[.int .u64 (n:Int)] w fun e w'=>e=.returned (zk n)∧Below w.heap.size w w':=by
 go_enter Tryz.func52,Tryz.ntmps52
 go_wp2;refine bodyPost_ret (v:=zk n) ?_ rfl ⟨rfl,?_⟩
 ·rw[← sk n h];simp[results,Tryz.results52,go_sem]
 ·exact (Below.refl _ _).alloc (Nat.le_refl _) _
def eqN (a b:Nat):Bool:=decide (a=b)
theorem nG (n:Nat) (h:n<18446744073709551616):Tryz.prog.keyLits 1 22 [.int .u64 (n:Int)]=some [.int .u64 (n:Int)]:=by
 have hw:(Lit.int .u64 (n:Int)).wf=true:=by
  simp[Lit.wf,IntKind.min,IntKind.max,IntKind.signed,IntKind.bits];omega
 simp[Program.keyLits,Tryz.underlying22,hw]
theorem qq (a:Nat):Tryz.prog.keyLits 2 24 (zc a)=some [.int .u64 ((wd 0 a:Nat):Int),.int .u64 ((wd 1 a:Nat):Int),.int .u64 ((wd 2 a:Nat):Int),.int .u64 ((wd 3 a:Nat):Int)]:=by
 have c1:Tryz.prog.cellsOf 24=4:=by kernel_rfl
 have c2:Tryz.prog.cellsOf 22=1:=by kernel_rfl
 have k:=fun i=>nG (wd i a) (yj i a);have r:List.range 4=[0,1,2,3]:=rfl;unfold Program.keyLits;simp[Tryz.underlying24,c1,c2,r,k]
theorem pm {a b:Nat} (ha:a<zd) (hb:b<zd) (w:World) :
  (binOp .eql 24 (zk a) (zk b)).run Tryz.prog w=.ok (.bool (eqN a b)) w:=by
 obtain⟨r,hr,hiff⟩:=run_equalIn_deep (P:=Tryz.prog) 9998 2 24 (by kernel_rfl) w 2 2 (zk a) (zk b)
  [.int .u64 ((wd 0 a:Nat):Int),.int .u64 ((wd 1 a:Nat):Int),.int .u64 ((wd 2 a:Nat):Int),.int .u64 ((wd 3 a:Nat):Int)]
  [.int .u64 ((wd 0 b:Nat):Int),.int .u64 ((wd 1 b:Nat):Int),.int .u64 ((wd 2 b:Nat):Int),.int .u64 ((wd 3 b:Nat):Int)]
  (by kernel_rfl) (by kernel_rfl) (qq a) (qq b)
 have e:r=eqN a b:=by
  unfold eqN;rw[Bool.eq_iff_iff,hiff];simp only[decide_eq_true_eq,List.cons.injEq,Lit.int.injEq,true_and,and_true,Int.ofNat_inj];constructor
  ·rintro ⟨h0,h1,h2,h3⟩;exact adj ha hb h0 h1 h2 h3
  ·rintro rfl;exact⟨rfl,rfl,rfl,rfl⟩
 subst e;simp only[run_eql_struct,hr,Result.andThen]
theorem yf {a b:Nat} (ha:a<zd) (hb:b<zd) (w:World) :
  (Op.equalIn 10000 24 (zk a) (zk b)).run Tryz.prog w=.ok (eqN a b) w:=by
 have:=pm ha hb w;rw[run_eql_struct] at this;cases h:(Op.equalIn 10000 24 (zk a) (zk b)).run Tryz.prog w with
 | ok r w'=>rw[h] at this;simp only[Result.andThen,Result.ok.injEq,Value.bool.injEq] at this;rw[this.1,this.2]
 | halt h' w'=>rw[h] at this;simp[Result.andThen] at this
attribute [local go_sem] yf
theorem av {a b:Nat} (h:a=b):eqN a b=true:=by simp[eqN,h]
theorem om {a b:Nat} (h:a≠b):eqN a b=false:=by simp[eqN,h]
def uQ (a b:Nat):Int:=if a=b then 0 else if a<b then -1 else 1
theorem cn (a b:Nat) (ha:a<zd) (hb:b<zd) (w:World) :
  Calls Tryz.prog 25 #[zk a,zk b] w fun e w'=>e=.returned (.int .i64 (uQ a b))∧Below w.heap.size w w':=by
 by_cases hab:a=b
 ·have he:=av hab;have hc:uQ a b=0:=by simp[uQ,hab]
  clear hab
  go_enter Tryz.func25,Tryz.ntmps25
  go_wp2
  go_ret
  exact⟨by simp[hc],((Ext.rfl' w).alloc' _).alloc' _⟩
 ·have he:=om hab
  by_cases hlt:a<b
  ·have hc:uQ a b = -1:=by simp[uQ,hab,hlt]
   have hbw:bw a b 0=1:=by simp[bw,hlt]
   clear hab
   go_enter Tryz.func25,Tryz.ntmps25
   go_wp2_with (go_at_call 54;refine (tX a b ha hb _).mono ?_;rintro e w1 ⟨rfl,hb1⟩)
   go_ret
   exact⟨by simp[hc],(((((Ext.rfl' w).alloc' _).alloc' _).trans' hb1).alloc' _)⟩
  ·have hc:uQ a b=1:=by simp[uQ,hab,hlt]
   have hbw:bw a b 0=0:=by simp[bw,hlt]
   clear hab
   go_enter Tryz.func25,Tryz.ntmps25
   go_wp2_with (go_at_call 54;refine (tX a b ha hb _).mono ?_;rintro e w1 ⟨rfl,hb1⟩)
   go_ret
   exact⟨by simp[hc],(((((Ext.rfl' w).alloc' _).alloc' _).trans' hb1).alloc' _)⟩
end
end Go.Proofs.YtiiefkchpicncaaGreatDoor
