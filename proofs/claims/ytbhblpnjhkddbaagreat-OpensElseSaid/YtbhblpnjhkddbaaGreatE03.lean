/- Part 3 of the proof. -/
import Derived.Test.YtbhblpnjhkddbaaGreatE02
import Derived.Test.YtbhblpnjhkddbaaGreatE01
import Derived.Test.YtbhblpnjhkddbaaGreatProg
import Derived.StillTailTactics
import Derived.BigQuiet
import Derived.Deep.QuietTactic
import Derived.Deep.RegionHeld3
import Derived.Deep.LoopGhost
import Derived.Shelf.Spec.BitsCarry
import Derived.Handy
import Derived.OwnWalk
import Derived.Laws.AppendOwnNone
import Derived.RangeFuncNested
import Derived.RangeFuncBound
import Derived.RangeFuncCalls
import Derived.RangeFuncBox
import Derived.RangeFuncLeaves
import Derived.RangeFuncFrom
import Derived.Shelf.Abstract
import Derived.Shelf.RegionOpen
import Derived.OwnWalkIn
import Derived.TacticsInMore
import Derived.LoopNIn
import Derived.LoopIn
import Derived.DeepKeys
import Derived.WalkKit
import Derived.LaidEql
import Derived.Stop.Asserts
import Derived.RowKitTokens
set_option linter.unusedSimpArgs false
set_option linter.unusedVariables false
set_option maxHeartbeats 8000000
namespace Go.Proofs.YtbhblpnjhkddbaaGreat
section
open Go Go.RowKit Go.BigFrame
namespace Sx
open Kp
class Mix (P:Program):Prop where
 out:P.follows .mixedOrders=true
inductive Gr:List (List Nat)→List (Nat × Ent)→Prop
 | nil:Gr [] []
 | add {G:List (List Nat)} {N:List (Nat × Ent)} (i:Nat) (es:List Ent):Gr G N→Gr (es.map Ent.g::G) (es.map (fun e=>(i,e))++N)
theorem Gr.mem {G:List (List Nat)} {N:List (Nat × Ent)} (h:Gr G N):∀ p∈N,∃ x∈G,p.2.g∈x:=by
 induction h with
 | nil=>simp
 | add i es _ ih =>
  intro p hp
  rcases List.mem_append.1 hp with hp|hp
  ·obtain⟨e,he,rfl⟩:=List.mem_map.1 hp;exact⟨_,by simp,List.mem_map.2 ⟨e,he,rfl⟩⟩
  ·obtain⟨x,hx,hg⟩:=ih p hp;exact⟨x,by simp[hx],hg⟩
theorem Gr.nodup {G:List (List Nat)} {N:List (Nat × Ent)} (h:Gr G N):G.Pairwise apart→(∀ x∈G,x.Nodup)→(N.map (fun p=>p.2.g)).Nodup:=by
 induction h with
 | nil=>simp
 | add i es hr ih =>
  intro hp hn;rw[List.pairwise_cons] at hp;rw[List.map_append,List.nodup_append];refine⟨?_,ih hp.2 (fun x hx=>hn x (by simp[hx])),?_⟩
  ·have:=hn _ (List.mem_cons_self ..);simpa [List.map_map,Function.comp_def] using this
  ·intro x hx y hy e;obtain⟨p,hp1,rfl⟩:=List.mem_map.1 hx;obtain⟨q,hq1,rfl⟩:=List.mem_map.1 hy;obtain⟨e1,he1,rfl⟩:=List.mem_map.1 hp1;obtain⟨z,hz,hg⟩:=hr.mem q hq1;exact hp.1 z hz e1.g (List.mem_map.2 ⟨e1,he1,rfl⟩) q.2.g hg e
inductive Vs (ops:List Oper) (i:Nat) (N:List (Nat × Ent)):List Ent→Prop
 | nil:Vs ops i N []
 | cons {E:List Ent} {e:Ent} (j:Nat):(j,e)∈N→anc ops i j=true→Vs ops i N E→Vs ops i N (e::E)
theorem Vs.mem {ops:List Oper} {i:Nat} {N:List (Nat × Ent)} {E:List Ent} (h:Vs ops i N E):∀ e∈E,∃ j,(j,e)∈N∧anc ops i j=true:=by
 induction h with
 | nil=>simp
 | cons j hj ha _ ih =>
  intro e he
  rcases List.mem_cons.1 he with rfl|he
  ·exact⟨j,hj,ha⟩
  ·exact ih e he
section
variable (P:Program) (w0:World) (gs:List Nat) (n:Nat) (fl:List Nat) (Q:Exit→Act→World→Prop) (ops:List Oper) (L0:List Ent)
def DQ (tail:List Oper) (i:Nat) (rest:List Oper) (C:zC→Prop) (K:zC→List (Nat × Value)) (N:zC→List (Nat × Ent)):Prop :=
 ∃ ks:Nat→zC→Kind,(∀ j,i≤j→Dep ops j (ks j))∧(∀ j s,i≤j→∃ x,qi (ks j s) x) ∧
  ∀ s a w F G,C s→a.defers=[]→a.tmps.size=n→Kn (K s) a→Me w0 gs L0 w→Gr G (N s)→(∀ j e,(j,e)∈N s→j<i)→(∀ j w',i≤j→F j w')→(∀ j w',F j w'→(∀ e,(j,e)∈N s→e.ok w'))→((∃ w',∀ j,F j w')→∀ x∈G,x.Nodup) →
   chain P ops fl w ks (fun a' F' G'=>∀ w',Below w.heap.size w w'→(∀ j,F' j w')→G'.Pairwise apart→(∀ x∈G',∀ g∈x,w.heap.size≤g)→wpList P ops.toArray Q tail a' w') s rest i a F G
def Dp {α:Type} (i:Nat) (v:zC→α):Prop:=∀ s s' : zC,(∀ j,anc ops i j=true→s j=s' j)→v s=v s'
end
section
variable {P:Program} {w0:World} {gs:List Nat} {n:Nat} {fl:List Nat} {Q:Exit→Act→World→Prop} {ops:List Oper} {L0:List Ent}
variable {tail rest:List Oper} {i:Nat} {C:zC→Prop} {K:zC→List (Nat × Value)} {N:zC→List (Nat × Ent)}
variable {d:Nat} {op:Op} {ty:TypeId} {pos:String} {after:Array Edge} {gd:Option (Nat × Bool)}
theorem Dp.const {α:Type} {v:α}:Dp ops i (fun _=>v):=fun _ _ _=>rfl
theorem DQ.nil (k:∀ s,C s→WO P w0 gs n ops Q (K s) ((N s).map Prod.snd++L0) tail):DQ P w0 gs n fl Q ops L0 tail i [] C K N:=by
 refine⟨fun _ _=>.skip,fun _ _ _ _ _=>rfl,fun _ _ _=>⟨fun _=>0,trivial⟩,?_⟩;intro s a w F G hC hdf hsz hk hme hG _ _ hF hnd w' hb hf hap hge;refine k s hC a w' hdf hsz hk (hme.add hb ⟨fun e he=>?_,fun e he=>?_,?_⟩)
 ·obtain⟨p,hp,rfl⟩:=List.mem_map.1 he;exact hF p.1 w' (hf p.1) p.2 hp
 ·obtain⟨p,hp,rfl⟩:=List.mem_map.1 he;obtain⟨x,hx,hg⟩:=hG.mem p hp;exact hge x hx _ hg
 ·have:=hG.nodup hap (hnd ⟨w',hf⟩);simpa [List.map_map,Function.comp_def] using this
theorem DQ.step {o:Oper} {N' : zC→List (Nat × Ent)} {K' : zC→List (Nat × Value)} {C' : zC→Prop} (k:zC→Kind) (es:zC→List Ent) (hdep:Dep ops i k) (hex:∀ s,∃ x,qi (k s) x)
  (hob:∀ s a w F,C s→a.defers=[]→a.tmps.size=n→Kn (K s) a→Me w0 gs L0 w→(∀ j w',F j w'→∀ e,(j,e)∈N s→e.ok w')→obl P ops fl w (k s) i o a F)
  (hK:∀ s a,a.tmps.size=n→Kn (K s) a→Kn (K' s) (a.put o.dst (kZ (k s) (s i)))) (hC:∀ s,C s→qi (k s) (s i)→C' s)
  (hN:∀ s,N' s=(es s).map (fun e=>(i,e))++N s) (hA:∀ s,oq (k s) (s i)=(es s).map Ent.g) (hV:∀ s w,uX (k s) (s i) w→(∀ e∈es s,e.ok w)∧((es s).map Ent.g).Nodup)
  (h:DQ P w0 gs n fl Q ops L0 tail (i+1) rest C' K' N'):DQ P w0 gs n fl Q ops L0 tail i (o::rest) C K N:=by
 obtain⟨ks,h1,h2,h3⟩:=h;have hki:(fun j s=>if j=i then k s else ks j s) i=k:=by funext s;simp
 refine⟨fun j s=>if j=i then k s else ks j s,fun j hj=>?_,fun j s hj=>?_,?_⟩
 ·by_cases e:j=i
  ·subst e;rw[hki];exact hdep
  ·have:(fun s=>if j=i then k s else ks j s)=ks j:=by funext s;simp[e]
   show Dep ops j (fun s=>if j=i then k s else ks j s);rw[this];exact h1 j (by omega)
 ·by_cases e:j=i
  ·subst e;simp only[if_true];exact hex s
  ·simp only[e,if_false];exact h2 j s (by omega)
 ·intro s a w F G hCs hdf hsz hk hme hG hNi hFi hF hnd;have hcong:∀ (Fin:Act→(Nat→World→Prop)→List (List Nat)→Prop) (l:List Oper) (m:Nat) (a:Act) (F:Nat→World→Prop) (G:List (List Nat)),i<m→chain P ops fl w ks Fin s l m a F G→chain P ops fl w (fun j s=>if j=i then k s else ks j s) Fin s l m a F G:=by
   intro Fin l
   induction l with
   | nil=>intro m a F G _ h;exact h
   | cons o l ih =>
    intro m a F G hm h;have hne:¬ m=i:=by omega
    unfold chain at h ⊢;simp only[hne,if_false];exact⟨h.1,fun hs=>ih (m+1) _ _ _ (by omega) (h.2 hs)⟩
  unfold chain;simp only[if_true];refine⟨hob s a w F hCs hdf hsz hk hme hF,fun hs=>hcong _ _ _ _ _ _ (by omega) ?_⟩;refine h3 s _ w _ _ (hC s hCs hs) (by rw[put_defers];exact hdf) (by rw[yj];exact hsz) (hK s a hsz hk) hme (by rw[hN s,hA s];exact .add i (es s) hG) (fun j e he=>?_) (fun j w' hj=>?_) (fun j w' hj e he=>?_) (fun ⟨w',hf⟩ x hx=>?_)
  ·rw[hN s] at he
   rcases List.mem_append.1 he with he|he
   ·obtain⟨e',he',h4⟩:=List.mem_map.1 he;cases h4;omega
   ·have:=hNi j e he;omega
  ·have:¬ j=i:=by omega
   simp only[this,if_false];exact hFi j w' (by omega)
  ·rw[hN s] at he
   rcases List.mem_append.1 he with he|he
   ·obtain⟨e',he',h4⟩:=List.mem_map.1 he;cases h4;simp only[if_true] at hj;exact (hV s w' hj).1 e he'
   ·have:j≠i:=by have:=hNi j e he;omega
    simp only[this,if_false] at hj;exact hF j w' hj e he
  ·rcases List.mem_cons.1 hx with rfl|hx
   ·have:=hf i;simp only[if_true] at this;rw[hA s];exact (hV s w' this).2
   ·refine hnd ⟨w',fun j=>?_⟩ x hx
    by_cases e:j=i
    ·subst e;exact hFi j w' (Nat.le_refl _)
    ·have:=hf j;simpa [e] using this
theorem DQ.skip (h:DQ P w0 gs n fl Q ops L0 tail (i+1) rest C (fun s=>(d,undef)::K s) N) (hw:∀ s,wk ops (K s) gd=some false:=by intro _;rfl) (hd:Nat.blt d n=true:=by rfl) :
  DQ P w0 gs n fl Q ops L0 tail i (⟨some d,op,ty,pos,after,gd⟩::rest) C K N :=
 DQ.step (fun _=>.skip) (fun _=>[]) (fun _ _ _=>rfl) (fun _=>⟨fun _=>0,trivial⟩) (fun s a w F _ _ _ hk _ _=>z6 (o:=⟨some d,op,ty,pos,after,gd⟩) hk (hw s))
  (fun s a hsz hk => hk.put (by have : d < n := by simpa [Nat.blt_eq] using hd
                                omega) undef) (fun _ h _=>h) (fun _=>rfl) (fun _=>rfl) (fun _ _ _=>by simp) h
theorem DQ.doesE {v:zC→Value} (E:zC→List Ent) (hE:∀ s,Vs ops i (N s) (E s)) (hv:∀ s,C s→Does P w0 gs (K s) (E s++L0) op ty (v s)) (dep:Dp ops i v)
  (h:DQ P w0 gs n fl Q ops L0 tail (i+1) rest C (fun s=>(d,v s)::K s) N) (hfl:fl.contains i=false:=by rfl) (hw:∀ s,wk ops (K s) gd=some true:=by intro _;rfl) (hd:Nat.blt d n=true:=by rfl) :
  DQ P w0 gs n fl Q ops L0 tail i (⟨some d,op,ty,pos,after,gd⟩::rest) C K N :=
 DQ.step (fun s=>.val (v s)) (fun _=>[]) (fun s s' hs=>by simp only[dep s s' hs]) (fun _=>⟨fun _=>0,trivial⟩)
  (fun s a w F hC _ _ hk hme hF=>⟨z6 (o:=⟨some d,op,ty,pos,after,gd⟩) hk (hw s),.inr ⟨hfl,fun w' hb hf=>by
   unfold kyp;have hm:=(hme.below hb).mr
   rw[hv s hC a w' hk ⟨hm.mod,fun e he=>by
    rcases List.mem_append.1 he with he|he
    ·obtain⟨j,h1,h2⟩:=(hE s).mem e he;exact hF j w' (hf j h2) e h1
    ·exact hm.ok e he⟩ ⟨some d,op,ty,pos,after,gd⟩ rfl rfl]
   exact⟨rfl,Below.refl _ _⟩⟩⟩)
  (fun s a hsz hk => hk.put (by have : d < n := by simpa [Nat.blt_eq] using hd
                                omega) (v s)) (fun _ h _=>h) (fun _=>rfl) (fun _=>rfl) (fun _ _ _=>by simp) h
theorem DQ.does {v:zC→Value} (hv:∀ s,C s→Does P w0 gs (K s) L0 op ty (v s)) (dep:Dp ops i v)
  (h:DQ P w0 gs n fl Q ops L0 tail (i+1) rest C (fun s=>(d,v s)::K s) N) (hfl:fl.contains i=false:=by rfl) (hw:∀ s,wk ops (K s) gd=some true:=by intro _;rfl) (hd:Nat.blt d n=true:=by rfl) :
  DQ P w0 gs n fl Q ops L0 tail i (⟨some d,op,ty,pos,after,gd⟩::rest) C K N :=
 DQ.doesE (fun _=>[]) (fun _=>.nil) hv dep h hfl hw hd
theorem DQ.free {v:zC→Value} (hv:∀ s,C s→∀ w0 gs,Does P w0 gs (K s) [] op ty (v s)) (dep:Dp ops i v)
  (h:DQ P w0 gs n fl Q ops L0 tail (i+1) rest C (fun s=>(d,v s)::K s) N) (hw:∀ s,wk ops (K s) gd=some true:=by intro _;rfl) (hd:Nat.blt d n=true:=by rfl) :
  DQ P w0 gs n fl Q ops L0 tail i (⟨some d,op,ty,pos,after,gd⟩::rest) C K N :=
 DQ.step (fun s=>.val (v s)) (fun _=>[]) (fun s s' hs=>by simp only[dep s s' hs]) (fun _=>⟨fun _=>0,trivial⟩)
  (fun s a w F hC _ _ hk hme hF=>⟨z6 (o:=⟨some d,op,ty,pos,after,gd⟩) hk (hw s),.inl (fun w'=>hv s hC w' [] a w' hk (Me.refl w' []).mr ⟨some d,op,ty,pos,after,gd⟩ rfl rfl)⟩)
  (fun s a hsz hk => hk.put (by have : d < n := by simpa [Nat.blt_eq] using hd
                                omega) (v s)) (fun _ h _=>h) (fun _=>rfl) (fun _=>rfl) (fun _ _ _=>by simp) h
theorem DQ.newsE {vf:zC→(Nat→Nat)→Value} {Nf:zC→(Nat→Nat)→List Ent} {S:zC→(Nat→Nat)→Prop} (E:zC→List Ent) (hE:∀ s,Vs ops i (N s) (E s)) (hS:∀ s,∃ x,S s x)
  (hv:∀ s,C s→mP P w0 gs (K s) (E s++L0) op ty (vf s) (Nf s) (S s)) (dep:Dp ops i vf) (depN:Dp ops i Nf) (depS:Dp ops i S)
  (h:DQ P w0 gs n fl Q ops L0 tail (i+1) rest (fun s=>C s∧S s (s i)) (fun s=>(d,vf s (s i))::K s) (fun s=>(Nf s (s i)).map (fun e=>(i,e))++N s)) (hfl:fl.contains i=false:=by rfl) (hw:∀ s,wk ops (K s) gd=some true:=by intro _;rfl) (hd:Nat.blt d n=true:=by rfl) :
  DQ P w0 gs n fl Q ops L0 tail i (⟨some d,op,ty,pos,after,gd⟩::rest) C K N :=
 DQ.step (fun s=>.rel (vf s) (S s) (fun x w=>(∀ e∈Nf s x,e.ok w)∧((Nf s x).map Ent.g).Nodup) (fun x=>(Nf s x).map Ent.g)) (fun s=>Nf s (s i))
  (fun s s' hs=>by simp only[dep s s' hs,depN s s' hs,depS s s' hs]) hS
  (fun s a w F hC _ _ hk hme hF=>⟨hfl,z6 (o:=⟨some d,op,ty,pos,after,gd⟩) hk (hw s),hS s,fun x w w' ⟨h1,h2⟩ hb=>⟨fun e he=>(h1 e he).keep (hb.block e.g (h1 e he).lt),h2⟩,fun w' hb hf=>by
   unfold kyp;have hm:=(hme.below hb).mr
   obtain⟨x,w'',e1,e2,e3,e4⟩:=hv s hC a w' hk ⟨hm.mod,fun e he=>by
    rcases List.mem_append.1 he with he|he
    ·obtain⟨j,h1,h2⟩:=(hE s).mem e he;exact hF j w' (hf j h2) e h1
    ·exact hm.ok e he⟩ ⟨some d,op,ty,pos,after,gd⟩ rfl rfl
   rw[e1];refine⟨x,rfl,e2,⟨e4.ok,e4.nodup⟩,e3,fun g hg=>?_⟩;obtain⟨e,he,rfl⟩:=List.mem_map.1 hg;exact⟨e4.new e he,(e4.ok e he).lt⟩⟩)
  (fun s a hsz hk => hk.put (by have : d < n := by simpa [Nat.blt_eq] using hd
                                omega) (vf s (s i))) (fun _ h hs=>⟨h,hs⟩) (fun _=>rfl) (fun _=>rfl) (fun _ _ hh=>hh) h
theorem uT.news {K:List (Nat × Value)} {L:List Ent} {v:Nat→Value} {t:TypeId} {cs:List Value} (h:uT P w0 gs K L op ty v t cs):mP P w0 gs K L op ty (fun x=>v (x 0)) (fun x=>[⟨x 0,t,cs⟩]) (fun _=>True) :=
 fun a w hk hm o h1 h2=>⟨fun _=>w.heap.size,_,h a w hk hm o h1 h2,trivial,(Below.refl _ _).alloc (Nat.le_refl _) _,⟨fun e he=>by
  have:e=⟨w.heap.size,t,cs⟩:=by simpa using he
  subst this;exact .of (heap_alloc_new w _),fun e he=>by
  have:e=⟨w.heap.size,t,cs⟩:=by simpa using he
  subst this;exact Nat.le_refl _,by simp⟩⟩
theorem DQ.makesE {vf:zC→Nat→Value} {t:TypeId} {cs:zC→List Value} (E:zC→List Ent) (hE:∀ s,Vs ops i (N s) (E s))
  (hv:∀ s,C s→uT P w0 gs (K s) (E s++L0) op ty (vf s) t (cs s)) (dep:Dp ops i vf) (depN:Dp ops i cs)
  (h:DQ P w0 gs n fl Q ops L0 tail (i+1) rest C (fun s=>(d,vf s (s i 0))::K s) (fun s=>(i,⟨s i 0,t,cs s⟩)::N s)) (hfl:fl.contains i=false:=by rfl) (hw:∀ s,wk ops (K s) gd=some true:=by intro _;rfl) (hd:Nat.blt d n=true:=by rfl) :
  DQ P w0 gs n fl Q ops L0 tail i (⟨some d,op,ty,pos,after,gd⟩::rest) C K N:=by
 refine DQ.newsE (vf:=fun s x=>vf s (x 0)) (Nf:=fun s x=>[⟨x 0,t,cs s⟩]) (S:=fun _ _=>True) E hE (fun _=>⟨fun _=>0,trivial⟩) (fun s hC=>(hv s hC).news) (fun s s' hs=>by simp only[dep s s' hs]) (fun s s' hs=>by simp only[depN s s' hs]) (fun _ _ _=>rfl) ?_ hfl hw hd;obtain⟨ks,h1,h2,h3⟩:=h;exact⟨ks,h1,h2,fun s a w F G hC=>h3 s a w F G hC.1⟩
theorem DQ.makes {vf:zC→Nat→Value} {t:TypeId} {cs:zC→List Value}
  (hv:∀ s,C s→uT P w0 gs (K s) L0 op ty (vf s) t (cs s)) (dep:Dp ops i vf) (depN:Dp ops i cs)
  (h:DQ P w0 gs n fl Q ops L0 tail (i+1) rest C (fun s=>(d,vf s (s i 0))::K s) (fun s=>(i,⟨s i 0,t,cs s⟩)::N s)) (hfl:fl.contains i=false:=by rfl) (hw:∀ s,wk ops (K s) gd=some true:=by intro _;rfl) (hd:Nat.blt d n=true:=by rfl) :
  DQ P w0 gs n fl Q ops L0 tail i (⟨some d,op,ty,pos,after,gd⟩::rest) C K N :=
 DQ.makesE (fun _=>[]) (fun _=>.nil) hv dep depN h hfl hw hd
theorem DQ.callE {f:FuncId} [Cal P f] {xs:Array Operand} {ats:Array TypeId} {ak:zC→List Value} {R:zC→World→Prop} {v:zC→Value} (E:zC→List Ent) (hE:∀ s,Vs ops i (N s) (E s)) (hc:∀ s,C s→Fn P f (ak s) (R s) (Is (v s)))
  (ha:∀ s,evs (K s) xs.toList=some (ak s)) (hR:∀ s,C s→∀ w,Mr w0 gs (E s++L0) w→R s w) (dep:Dp ops i v)
  (h:DQ P w0 gs n fl Q ops L0 tail (i+1) rest C (fun s=>(d,v s)::K s) N) (hfl:fl.contains i=false:=by rfl) (hw:∀ s,wk ops (K s) gd=some true:=by intro _;rfl) (hd:Nat.blt d n=true:=by rfl) :
  DQ P w0 gs n fl Q ops L0 tail i (⟨some d,.call { callee:=.value (.func f),args:=xs,argTypes:=ats },ty,pos,after,gd⟩::rest) C K N :=
 DQ.step (fun s=>.val (v s)) (fun _=>[]) (fun s s' hs=>by simp only[dep s s' hs]) (fun _=>⟨fun _=>0,trivial⟩)
  (fun s a w F hC _ _ hk hme hF=>⟨z6 (o:=⟨some d,.call { callee:=.value (.func f),args:=xs,argTypes:=ats },ty,pos,after,gd⟩) hk (hw s),.inr ⟨hfl,fun w' hb hf=>by
   have hm:=(hme.below hb).mr;have hm' : Mr w0 gs (E s++L0) w':=⟨hm.mod,fun e he=>by
    rcases List.mem_append.1 he with he|he
    ·obtain⟨j,h1,h2⟩:=(hE s).mem e he;exact hF j w' (hf j h2) e h1
    ·exact hm.ok e he⟩
   refine kyp_call (f:=f) (args:=(ak s).toArray) (by have:=ug (P:=P) (f:=f) (ty:=ty) (pos:=pos) (after:=after) (gd:=gd) (dst:=some d) (ats:=ats) (x:=.func f) (w:=w') (fs:=[]) (cs:=[]) hk rfl (ha s);simpa using this) ((hc s hC w' (hR s hC w' hm')).mono ?_);rintro e w'' ⟨u,N',rfl,h1,_,h2⟩;exact⟨u,rfl,h2,h1⟩⟩⟩)
  (fun s a hsz hk => hk.put (by have : d < n := by simpa [Nat.blt_eq] using hd
                                omega) (v s)) (fun _ h _=>h) (fun _=>rfl) (fun _=>rfl) (fun _ _ _=>by simp) h
theorem DQ.call {f:FuncId} [Cal P f] {xs:Array Operand} {ats:Array TypeId} {ak:zC→List Value} {R:zC→World→Prop} {v:zC→Value} (hc:∀ s,C s→Fn P f (ak s) (R s) (Is (v s)))
  (ha:∀ s,evs (K s) xs.toList=some (ak s)) (hR:∀ s,C s→∀ w,Mr w0 gs L0 w→R s w) (dep:Dp ops i v)
  (h:DQ P w0 gs n fl Q ops L0 tail (i+1) rest C (fun s=>(d,v s)::K s) N) (hfl:fl.contains i=false:=by rfl) (hw:∀ s,wk ops (K s) gd=some true:=by intro _;rfl) (hd:Nat.blt d n=true:=by rfl) :
  DQ P w0 gs n fl Q ops L0 tail i (⟨some d,.call { callee:=.value (.func f),args:=xs,argTypes:=ats },ty,pos,after,gd⟩::rest) C K N :=
 DQ.callE (fun _=>[]) (fun _=>.nil) hc ha hR dep h hfl hw hd
theorem DQ.callsE {f:FuncId} [Cal P f] {x:Operand} {xs:Array Operand} {ats:Array TypeId} {ak fs cs ak' : zC→List Value} {R:zC→World→Prop} {vf:zC→(Nat→Nat)→Value} {Nf:zC→(Nat→Nat)→List Ent} {S:zC→(Nat→Nat)→Prop} (E:zC→List Ent) (hE:∀ s,Vs ops i (N s) (E s)) (hS:∀ s,∃ x,S s x)
  (hc:∀ s,C s→Fn P f (ak' s) (R s) (Ex (vf s) (Nf s) (S s))) (hx:∀ s,ev (K s) x=some (.func (.func f) (fs s).toArray (cs s).toArray))
  (ha:∀ s,evs (K s) xs.toList=some (ak s)) (hh:∀ s,fs s++ak s++cs s=ak' s) (hR:∀ s,C s→∀ w,Mr w0 gs (E s++L0) w→R s w) (dep:Dp ops i vf) (depN:Dp ops i Nf) (depS:Dp ops i S)
  (h:DQ P w0 gs n fl Q ops L0 tail (i+1) rest (fun s=>C s∧S s (s i)) (fun s=>(d,vf s (s i))::K s) (fun s=>(Nf s (s i)).map (fun e=>(i,e))++N s)) (hfl:fl.contains i=false:=by rfl) (hw:∀ s,wk ops (K s) gd=some true:=by intro _;rfl) (hd:Nat.blt d n=true:=by rfl) :
  DQ P w0 gs n fl Q ops L0 tail i (⟨some d,.call { callee:=.value x,args:=xs,argTypes:=ats },ty,pos,after,gd⟩::rest) C K N :=
 DQ.step (fun s=>.rel (vf s) (S s) (fun x w=>(∀ e∈Nf s x,e.ok w)∧((Nf s x).map Ent.g).Nodup) (fun x=>(Nf s x).map Ent.g)) (fun s=>Nf s (s i))
  (fun s s' hs=>by simp only[dep s s' hs,depN s s' hs,depS s s' hs]) hS
  (fun s a w F hC _ _ hk hme hF=>⟨hfl,z6 (o:=⟨some d,.call { callee:=.value x,args:=xs,argTypes:=ats },ty,pos,after,gd⟩) hk (hw s),hS s,fun x w w' ⟨h1,h2⟩ hb=>⟨fun e he=>(h1 e he).keep (hb.block e.g (h1 e he).lt),h2⟩,fun w' hb hf=>by
   have hm:=(hme.below hb).mr;have hm' : Mr w0 gs (E s++L0) w':=⟨hm.mod,fun e he=>by
    rcases List.mem_append.1 he with he|he
    ·obtain⟨j,h1,h2⟩:=(hE s).mem e he;exact hF j w' (hf j h2) e h1
    ·exact hm.ok e he⟩
   refine kyp_call (f:=f) (args:=(ak' s).toArray) (by have:=ug (P:=P) (f:=f) (ty:=ty) (pos:=pos) (after:=after) (gd:=gd) (dst:=some d) (ats:=ats) (w:=w') hk (hx s) (ha s);rw[hh s] at this;exact this) ((hc s hC w' (hR s hC w' hm')).mono ?_);rintro e w'' ⟨u,N',rfl,h1,h2,x,rfl,rfl,h3⟩;refine⟨_,rfl,x,rfl,h3,⟨h2.ok,h2.nodup⟩,h1,fun g hg=>?_⟩;obtain⟨e,he,rfl⟩:=List.mem_map.1 hg;exact⟨h2.new e he,(h2.ok e he).lt⟩⟩)
  (fun s a hsz hk => hk.put (by have : d < n := by simpa [Nat.blt_eq] using hd
                                omega) (vf s (s i))) (fun _ h hs=>⟨h,hs⟩) (fun _=>rfl) (fun _=>rfl) (fun _ _ hh=>hh) h
theorem WC.draw {K:List (Nat × Value)} {L:List Ent} {id:Nat} {l hd tl:List Oper} [Mix P] (h:Nat) (hB:yh l [] h=true) (h1:l.take h=hd) (h2:l.drop h=tl)
  (k:DQ P w0 gs n [] Q l L tl 0 hd (fun _=>True) (fun _=>K) (fun _=>[])):WC P w0 gs n (.region id l.toArray true) Q K L:=by
 intro a w hdf hsz hk hme;subst h1;subst h2;obtain⟨ks,k1,k2,k3⟩:=k;exact rh [] h ks Mix.out hB (.inl rfl) (fun i=>k1 i (Nat.zero_le _)) (fun i s=>k2 i s (Nat.zero_le _)) (fun s=>k3 s a w _ _ trivial hdf hsz hk hme .nil (by simp) (fun _ _ _=>trivial) (by simp) (by simp))
theorem WC.drawF {K:List (Nat × Value)} {L:List Ent} {id:Nat} {l hd tl:List Oper} [Mix P] (fl:List Nat) (h:Nat) (hB:yh l fl h=true) (h1:l.take h=hd) (h2:l.drop h=tl)
  (k:DQ P w0 gs n fl (NoPanic Q) l L tl 0 hd (fun _=>True) (fun _=>K) (fun _=>[])):WC P w0 gs n (.region id l.toArray true) Q K L:=by
 intro a w hdf hsz hk hme;subst h1;subst h2;obtain⟨ks,k1,k2,k3⟩:=k;exact wp_region_noPanic (rh fl h ks Mix.out hB (.inr (fun _ _ _ _ _ h=>h.elim)) (fun i=>k1 i (Nat.zero_le _)) (fun i s=>k2 i s (Nat.zero_le _)) (fun s=>k3 s a w _ _ trivial hdf hsz hk hme .nil (by simp) (fun _ _ _=>trivial) (by simp) (by simp)))
theorem WX.noPanic {K:List (Nat × Value)} {L:List Ent} (k:WX w0 gs n .normal Q K L):WX w0 gs n .normal (NoPanic Q) K L:=k
end
end Sx
end
section
open Go.RowKit
theorem nH (x y c:Nat) (hc:c≤1) (w:World) :
  (callFunc 169 #[.int .u64 x,.int .u64 y,.int .u64 c]).run Tryz.prog w =
   .ok (.value (.tuple #[.int .u64 (((x+y+c)%18446744073709551616:Nat):Int),.int .u64 (((x+y+c) / 18446744073709551616:Nat):Int)])) w:=by
 rw[run_callFunc_extern (Tryz.func169) (by kernel_rfl) (by kernel_rfl) (by kernel_rfl) (e:=add64Entry) (by kernel_rfl),run_add64 x y c (by omega) (by omega) (by omega) (by omega)];simp only[Result.andThen];congr 5<;>omega
def cy (a b:Nat):Nat→Nat
 | 0=>0
 | k+1=>(wd k a+wd k b+cy a b k) / 18446744073709551616
def sw (a b k:Nat):Nat:=(wd k a+wd k b+cy a b k)%18446744073709551616
theorem acL (a b k:Nat):cy a b k≤1:=by
 induction k with
 | zero=>exact Nat.zero_le _
 | succ k ih=>have:=z7 k a;have:=z7 k b;simp only[cy];omega
def u64 (n:Nat):Value:=.int .u64 ((n:Nat):Int)
def vP (a b k:Nat):List Value:=[if 0<k then .int .u64 (sw a b 0:Nat) else .int .u64 0,if 1<k then .int .u64 (sw a b 1:Nat) else .int .u64 0,if 2<k then .int .u64 (sw a b 2:Nat) else .int .u64 0,if 3<k then .int .u64 (sw a b 3:Nat) else .int .u64 0]
theorem ve (a:Nat) {k:Nat} (h:k<4):(zb a)[k]?=some (.int .u64 (wd k a:Nat)):=by
 have:k=0∨k=1∨k=2∨k=3:=by omega
 rcases this with rfl|rfl|rfl|rfl<;>rfl
theorem lJ (a b:Nat) {k:Nat} (h:k<4):(vP a b k)[k]?=some (.int .u64 0):=by
 have:k=0∨k=1∨k=2∨k=3:=by omega
 rcases this with rfl|rfl|rfl|rfl<;>rfl
theorem dt (a b:Nat) {k:Nat} (h:k<4):(vP a b k).set k (.int .u64 (sw a b k:Nat))=vP a b (k+1):=by
 have:k=0∨k=1∨k=2∨k=3:=by omega
 rcases this with rfl|rfl|rfl|rfl<;>rfl
set_option maxRecDepth 100000 in
theorem nj (a b:Nat) (ha:a<zc) (hbb:b<zc) (w:World) :
  Calls Tryz.prog 146 #[ze a,ze b] w fun e w'=>e=.returned (.tuple #[ze ((a+b)%zc),.int .u64 (((a+b) / zc:Nat):Int)])∧Below w.heap.size w w':=by
 have hA:=nH
 go_enter Tryz.func146,Tryz.ntmps146
 go_wp2;generalize hW:((w.alloc _).alloc _).alloc _=W;have hg0:Blk W w.heap.size 24 (zb a):=by subst hW;exact ((Blk.new _ _ _).alloc _).alloc _
 have hg1:Blk W (w.heap.size+1) 24 (zb b):=by subst hW;exact (Blk.new' (by simp)).alloc _
 have hg2:Blk W (w.heap.size+1+1) 24 (vP a b 0):=by subst hW;exact Blk.new' (by simp)
 have hb:Below w.heap.size w W:=by subst hW;exact (((Below.refl _ _).alloc (Nat.le_refl _) _).alloc (by simp) _).alloc (by simp;omega) _
 clear hW
 go_loopw [5,7] (fun c i wr=>∃ k:Nat,k≤4∧i=.int .i64 k∧c=.int .u64 (cy a b k:Nat)∧Blk wr w.heap.size 24 (zb a)∧Blk wr (w.heap.size+1) 24 (zb b)∧Blk wr (w.heap.size+1+1) 24 (vP a b k)∧Below w.heap.size w wr) (fun _ i _=>4 - (intOf i).toNat)
 case atStart=>exact⟨0,by omega,rfl,rfl,hg0,hg1,hg2,hb⟩
 case round =>
  clear hg0 hg1 hg2 hb;obtain⟨k,hk,rfl,rfl,hg0,hg1,hg2,hb⟩:=hrel;have hc:=acL a b k
  by_cases hlt:k<4
  ·have c0:=hg0.cell_at (ve a hlt);have c1:=hg1.cell_at (ve b hlt);have c2:=hg2.cell_at (lJ a b hlt);have f2:=hg2.frozen k;go_wp2;have lt0:=hg0.lt;have lt1:=hg1.lt;have lt2:=hg2.lt;refine Kp.wp_region_kpf [11] 13 (by kernel_rfl) (by kernel_rfl) (fun L Fin hL hFin=>?_);have HL:=Lib.hid hL;clear hL;have HF:=Lib.hid hFin;clear hFin;simp only[List.take_succ_cons,List.take_zero,List.drop_succ_cons,List.drop_zero];apply Exists.intro
   repeat ((first|(apply Kp.kp_free;(first|rfl|(rw[HL.out];rfl));(intro w1;go_simp;rfl))|(apply Kp.kp_now;rfl;(first|rfl|(rw[HL.out];rfl));(intro w1 hb1;obtain⟨hcw,hfw⟩:=un hb1;clear hb1;go_simp;rfl)));simp only[Act.put,List.setIfInBounds_toArray,List.set_cons_succ,List.set_cons_zero])
   apply Kp.kp_nil;refine HF.out _ _ (fun w1 hb1 _=>?_);clear HL HF;simp only[List.drop_succ_cons,List.drop_zero];have c3:=(hg2.below hb1 lt2).cell_at (lJ a b hlt);have f3:=(hg2.below hb1 lt2).frozen k;go_wp2;refine NoPanic.normal ?_;go_wp2
   go_roundw
   case rel =>
    refine⟨k+1,by omega,by go_num,?_,(hg0.below hb1 lt0).far (by simp;omega) _,(hg1.below hb1 lt1).far (by simp) _,?_,(hb.trans (hb1.mono hb.size)).setCell (by simp;omega) _⟩
    ·simp[cy]
    ·rw[← dt a b hlt];exact (hg2.below hb1 lt2).set_ k _
   case measure=>simp[intOf];omega
  ·obtain rfl:k=4:=by omega
   have d0:wr.cell? ⟨w.heap.size+1+1,0,none⟩=some (.int .u64 ((sw a b 0:Nat):Int)):=hg2.cell_at rfl;have d1:wr.cell? ⟨w.heap.size+1+1,1,none⟩=some (.int .u64 ((sw a b 1:Nat):Int)):=hg2.cell_at rfl;have d2:wr.cell? ⟨w.heap.size+1+1,2,none⟩=some (.int .u64 ((sw a b 2:Nat):Int)):=hg2.cell_at rfl;have d3:wr.cell? ⟨w.heap.size+1+1,3,none⟩=some (.int .u64 ((sw a b 3:Nat):Int)):=hg2.cell_at rfl;have ff:=hg2.frozen;clear hA;go_wp2;have hs:=fg a b ha hbb (sw a b 0) (sw a b 1) (sw a b 2) (sw a b 3) (cy a b 1) (cy a b 2) (cy a b 3) (cy a b 4) (by simp[sw,cy]) (by simp[cy]) rfl rfl rfl rfl rfl rfl;have hlt:=fun i=>Nat.mod_lt (wd i a+wd i b+cy a b i) (show 0<18446744073709551616 by omega);have hv:=se (hlt 0) (hlt 1) (hlt 2) (hlt 3);have ev:Value.agg #[.int .u64 ((sw a b 0:Nat):Int),.int .u64 ((sw a b 1:Nat):Int),.int .u64 ((sw a b 2:Nat):Int),.int .u64 ((sw a b 3:Nat):Int)]=ze ((a+b)%zc):=by rw[← hs.1];exact hv
   refine bodyPost_ret (v:=.tuple #[ze ((a+b)%zc),.int .u64 (((a+b) / zc:Nat):Int)]) ?_ rfl ⟨rfl,?_⟩
   ·rw[← ev,← hs.2];simp[results,Tryz.results146,go_sem,d0,d1,d2,d3]
   ·refine ((((hb.setCell ?_ _).setCell ?_ _).setCell ?_ _).setCell ?_ _)<;>(simp;omega)
def Rd (w:World) (v:Value) (xs:List Value):Prop :=
 (∀ u∈xs,u.oneCell'=true)∧((v=.slice none 0 0∧xs=[])∨∃ (a:Addr) (c:Nat),v=.slice (some a) xs.length c∧a.block<w.heap.size∧∀ j u,xs[j]?=some u→w.cell? (a.add j)=some u)
theorem add_block (a:Addr) (j:Nat):(a.add j).block=a.block:=by unfold Addr.add;split<;>rfl
theorem Rd.below {w w' : World} {v:Value} {xs:List Value} {B:Nat} (h:Rd w v xs) (hB:w.heap.size=B) (hb:Below B w w'):Rd w' v xs:=by
 subst hB;obtain⟨h1,h2|⟨a,c,h2,h3,h4⟩⟩:=h
 ·exact⟨h1,.inl h2⟩
 ·exact⟨h1,.inr ⟨a,c,h2,Nat.lt_of_lt_of_le h3 hb.size,fun j u hj=>(hb.cell (p:=a.add j) (by rw[add_block];exact h3)).trans (h4 j u hj)⟩⟩
def nJ (n1 n2 k:Nat):Nat:=if k=0 then 0 else if k=1 then n1 else n1+n2
def aaX (xs1 xs2:List Value) (k:Nat):List Value:=if k=0 then [] else if k=1 then xs1 else xs1++xs2
theorem qG {B:Nat} {w0 w w' : World} {e:TypeId} {size n:Nat} {v:Value} {xs:List Value} (hB:B≤w.heap.size) (hb:Below B w0 w) (h:w.ownsRow B e size v n xs) (hg:w.grownBy w' v.ownBlock):Below B w0 w':=by
 refine hb.grown hg hB (fun k e=>?_)
 rcases h.2 with ⟨rfl,_⟩|⟨g,cap,cur,rfl,hB,_⟩
 ·cases e
 ·cases e;exact hB
set_option maxRecDepth 100000 in
theorem tV (v1 v2:Value) (xs1 xs2:List Value) (S c:Nat) (w:World) (h1:Rd w v1 xs1) (h2:Rd w v2 xs2) (hS:Blk w S 131 [v1,v2]) (hn:0<xs1.length+xs2.length) (hm:xs1.length+xs2.length≤1099511627776) :
  Calls Tryz.prog 157 #[.slice (some ⟨S,0,none⟩) 2 c] w fun e w' =>
   ∃ v,e=.returned v∧w'.ownsRow w.heap.size 22 1 v (xs1.length+xs2.length) (xs1++xs2)∧Below w.heap.size w w':=by
 have hb1:∃ b n c,v1=.slice b n c∧n=xs1.length:=by
  obtain⟨_,⟨rfl,rfl⟩|⟨a,c,rfl,_⟩⟩:=h1
  ·exact⟨_,_,_,rfl,rfl⟩
  ·exact⟨_,_,_,rfl,rfl⟩
 have hb2:∃ b n c,v2=.slice b n c∧n=xs2.length:=by
  obtain⟨_,⟨rfl,rfl⟩|⟨a,c,rfl,_⟩⟩:=h2
  ·exact⟨_,_,_,rfl,rfl⟩
  ·exact⟨_,_,_,rfl,rfl⟩
 obtain⟨b1,n1,c1,rfl,e1⟩:=hb1;obtain⟨b2,n2,c2,rfl,e2⟩:=hb2;rw[← e1,← e2] at hn hm ⊢;have lS:=hS.lt;have cS0:=hS.cell_at (i:=0) rfl;have cS1:=hS.cell_at (i:=1) rfl;have H1:=Lib.hid h1;have H2:=Lib.hid h2;have E1:=Lib.hid e1;have E2:=Lib.hid e2;clear h1 h2 e1 e2
 go_enter Tryz.func157,Tryz.ntmps157
 go_wp2
 go_loopw [3,11] (fun t3 t11 wr=>∃ k:Nat,k≤2∧t11=.int .i64 k∧t3=.int .i64 (nJ n1 n2 k:Nat)∧wr=w) (fun _ i _=>2 - (intOf i).toNat)
 case atStart=>exact⟨0,by omega,rfl,rfl,rfl⟩
 case round =>
  obtain⟨k,hk,rfl,rfl,rfl⟩:=hrel;have hk3:k=0∨k=1∨k=2:=by omega
  rcases hk3 with rfl|rfl|rfl
  ·have ht0:nJ n1 n2 0=0:=rfl;rw[ht0];go_wp2
   go_roundw
   case rel=>exact⟨1,by omega,rfl,by simp[nJ],trivial⟩
   case measure=>simp[intOf]
  ·have ht0:nJ n1 n2 1=n1:=rfl;rw[ht0];go_wp2
   go_roundw
   case rel=>exact⟨2,by omega,rfl,by simp[nJ],trivial⟩
   case measure=>simp[intOf]
  ·have ht0:nJ n1 n2 2=n1+n2:=rfl;rw[ht0]
   go_wp2_with (go_at_call 173;refine (rq (n1+n2) hn hm _).mono ?_;rintro e W ⟨v,rfl,hown,hbw⟩)
   obtain⟨w,rfl⟩ : ∃ w:World,w=wr:=⟨_,rfl⟩;clear cS0 cS1 ht0
   go_loopw [6,27] (fun t6 t27 wr=>∃ (x6:Value) (k:Nat),x6=t6∧k≤2∧t27=.int .i64 k∧wr.ownsRow w.heap.size 22 1 x6 (nJ n1 n2 k) (aaX xs1 xs2 k)∧Below w.heap.size w wr) (fun _ i _=>2 - (intOf i).toNat)
   case atStart=>exact⟨_,0,rfl,by omega,rfl,hown,hbw⟩
   case round =>
    clear hown hbw;obtain⟨x6,k,rfl,hk,rfl,hown,hbw⟩:=hrel;have hinfo:(Tryz.prog.info? 22).map (fun i=>(i.zero,i.size,i.bytes))=some (some (.int .u64 0),1,8):=by kernel_rfl
    obtain⟨i0,hi,hz0,hz1,hz2⟩:=info_parts hinfo;have hk3:k=0∨k=1∨k=2:=by omega
    rcases hk3 with rfl|rfl|rfl
    ·have c0:=(hS.below hbw lS).cell_at (i:=0) rfl;have hr:=H1.out.below rfl hbw;have e1:=E1.out;obtain⟨ho,⟨e,rfl⟩|⟨a,c',e,hlt,hc⟩⟩:=hr
     ·obtain⟨rfl,q1,q2⟩ : b1=none∧n1=0∧c1=0:=by cases e;exact⟨rfl,rfl,rfl⟩
      have hx0:Value.slice none n1 c1=.slice none 0 0:=by rw[q1,q2]
      have Q:=Lib.hid q1;clear e1 ho e q1 q2;have HX:=Lib.hid hx0;clear hx0
      go_wp2_with (at_builtin;refine wpList_append_own_none rfl _ _ 131 rfl w.heap.size 22 i0 1 Tryz.underlying131 hi x6 _ _ rfl hown HX.out ?_)
      go_roundw
      case rel=>exact⟨_,1,rfl,by omega,rfl,by simpa [nJ,aaX,Q.out] using hown,hbw⟩
      case measure=>simp[intOf]
     ·cases e;clear e1
      go_wp2_with (at_builtin;refine wpList_append_own _ rfl _ _ 131 rfl w.heap.size 22 i0 (.int .u64 0) 1 8 Tryz.underlying131 hi hz0 hz1 hz2 rfl (by decide) x6 _ _ rfl hown a xs1.length _ xs1 rfl (by simp) hc ho (by simp[nJ,maxLen];omega) (by simp[nJ];omega) hbw.size ?_;intro v' w1 hown' hgrow _)
      go_roundw
      case rel=>exact⟨_,1,rfl,by omega,rfl,by simpa [nJ,aaX] using hown',qG hbw.size hbw hown hgrow⟩
      case measure=>simp[intOf]
    ·have c0:=(hS.below hbw lS).cell_at (i:=1) rfl;have hr:=H2.out.below rfl hbw;have e1:=E2.out;obtain⟨ho,⟨e,rfl⟩|⟨a,c',e,hlt,hc⟩⟩:=hr
     ·obtain⟨rfl,q1,q2⟩ : b2=none∧n2=0∧c2=0:=by cases e;exact⟨rfl,rfl,rfl⟩
      have hx0:Value.slice none n2 c2=.slice none 0 0:=by rw[q1,q2]
      have Q:=Lib.hid q1;clear e1 ho e q1 q2;have HX:=Lib.hid hx0;clear hx0
      go_wp2_with (at_builtin;refine wpList_append_own_none rfl _ _ 131 rfl w.heap.size 22 i0 1 Tryz.underlying131 hi x6 _ _ rfl hown HX.out ?_)
      go_roundw
      case rel=>exact⟨_,2,rfl,by omega,rfl,by simpa [nJ,aaX,Q.out] using hown,hbw⟩
      case measure=>simp[intOf]
     ·cases e;clear e1
      go_wp2_with (at_builtin;refine wpList_append_own _ rfl _ _ 131 rfl w.heap.size 22 i0 (.int .u64 0) 1 8 Tryz.underlying131 hi hz0 hz1 hz2 rfl (by decide) x6 _ _ rfl hown a xs2.length _ xs2 rfl (by simp) hc ho (by simp[nJ,maxLen];omega) (by simp[nJ];omega) hbw.size ?_;intro v' w1 hown' hgrow _)
      go_roundw
      case rel=>exact⟨_,2,rfl,by omega,rfl,by simpa [nJ,aaX] using hown',qG hbw.size hbw hown hgrow⟩
      case measure=>simp[intOf]
    ·go_wp2
     go_ret
     refine⟨_,rfl,?_,hbw⟩;simpa [nJ,aaX] using hown
end
section
open Go.RowKit Go.Shelf
attribute [local go_sem] Oper.semAt_some
def upto {α:Type} (f:Nat→α) (k:Nat):List α:=(List.range k).map f
theorem fb {α:Type} (f:Nat→α) (k:Nat):upto f (k+1)=upto f k++[f k]:=by simp[upto,List.range_succ]
theorem ml {α:Type} (f:Nat→α) (k:Nat):(upto f k).length=k:=by simp[upto]
abbrev U64:Type:={ n:Nat // n<18446744073709551616 }
instance:Inhabited U64:=⟨⟨0,by omega⟩⟩
def um (b c:Nat) (A B:World):Prop:=B.heap[b]?=A.heap[b]?∧B.heap[c]?=A.heap[c]?
theorem um.refl (b c:Nat) (A:World):um b c A A:=⟨rfl,rfl⟩
theorem um.trans {b c:Nat} {A B C:World} (h:um b c A B) (k:um b c B C):um b c A C:=⟨k.1.trans h.1,k.2.trans h.2⟩
theorem um.cell1 {b c:Nat} {A B:World} (h:um b c A B) (j:Nat):B.cell? ⟨b,j,none⟩=A.cell? ⟨b,j,none⟩:=World.cell?_of_block (a:=⟨b,j,none⟩) h.1
theorem um.cell2 {b c:Nat} {A B:World} (h:um b c A B) (j:Nat):B.cell? ⟨c,j,none⟩=A.cell? ⟨c,j,none⟩:=World.cell?_of_block (a:=⟨c,j,none⟩) h.2
theorem um.put {b c:Nat} {w:World} (hb:b<w.heap.size) (hc:c<w.heap.size) (W:World) (l:Nat) (o o' : Obj) (hl:w.heap.size≤l) (_:W.heap[l]?=some o) (_:o.isCells=false) (_:o.isWalk=false):um b c W (W.putObj l o') :=
 ⟨World.putObj_heap_other (by omega),World.putObj_heap_other (by omega)⟩
def sH (zs:List U64) (j:Nat):Nat × U64:=(zs.length - 1 - j,zs[zs.length - 1 - j]?.getD default)
set_option maxRecDepth 100000 in
theorem nF (F:Fence) (n:Nat) (hf:F.fn 174) (hro:F.round=none) (hn:1≤n) (l Bs b cap:Nat) (zs:List U64) (hreach:zs.length≤1099511627776) (J Jx:List (Nat × U64)→World→Prop)
  (hY:∀ pre x W,J pre W→pre.length<zs.length→YieldAt F (n - 1) Tryz.prog l #[.int .i64 (x.1:Int),.int .u64 (x.2.1:Int)] W fun e W' =>
   (e=.returned (.bool true)∧J (pre++[x]) W'∧um b Bs W W')∨(e=.returned (.bool false)∧Jx (pre++[x]) W'))
  (W:World) (hBs:W.cell? ⟨Bs,0,none⟩=some (.slice (some ⟨b,0,none⟩) zs.length cap)) (hc:∀ j,j<zs.length→W.cell? ⟨b,j,none⟩=some (.int .u64 ((zs[j]?.getD default).1:Int))) (h0:J [] W) :
  CallsIn F n Tryz.prog 174 #[.func (.yield l) #[] #[],.pointer (some ⟨Bs,0,none⟩)] W fun e W'=>(∃ v,e=.returned v) ∧
   ((∃ ys,ys=upto (sH zs) zs.length∧J ys W')∨(∃ pre,(∃ k,k≤zs.length∧pre=upto (sH zs) k)∧Jx pre W')):=by
 refine callsIn_of_wp Tryz.func174 rfl hf ?_ hro;simp only[Tryz.ntmps174,List.size_toArray,List.length_cons,List.length_nil,Nat.reduceAdd,Nat.reduceSub,Array.replicate_succ,Array.replicate_zero,List.push_toArray,List.append_toArray,List.nil_append,List.cons_append]
 gi_wp2
 gi_loopw [3] (fun i wr=>∃ k:Nat,k≤zs.length∧i=.int .i64 ((zs.length:Int) - 1 - (k:Int))∧J (upto (sH zs) k) wr∧um b Bs W wr)
  (fun i _=>(intOf i+1).toNat)
 case atStart=>exact⟨0,Nat.zero_le _,by simp,h0,um.refl _ _ _⟩
 case round =>
  obtain⟨k,hk,hi,hJs,hnx⟩:=hrel;have hBs':=(hnx.cell2 0).trans hBs
  by_cases hlt:k<zs.length
  ·rw[show (zs.length:Int) - 1 - (k:Int)=((zs.length - 1 - k:Nat):Int) by omega] at hi;subst hi;have hjl:zs.length - 1 - k<zs.length:=by omega
   have hcx:=(hnx.cell1 _).trans (hc _ hjl);obtain⟨fn,tmps,assign,body,hy,hR⟩:=hY _ (sH zs k) wr hJs (by rw[ml];exact hlt);have hse:=fb (sH zs) k;unfold sH at hy;dsimp only at hy;generalize hj:zs.length - 1 - k=j at *;generalize hz:zs[j]?.getD default=z at *;have hbk:sH zs k=(j,z):=by simp only[sH,hj,hz]
   have hjz:(j:Int)<(zs.length:Int):=by omega
   have hnext:(j:Int) - 1=(zs.length:Int) - 1 - ((k+1:Nat):Int):=by omega
   have HN:=Lib.hid hnext;clear hnext
   gi_wp2
   refine hR.mono ?_;rintro e W3 (⟨rfl,hJ3,hk3⟩|⟨rfl,hJx3⟩)
   ·gi_wp2
    go_roundw
    case rel=>exact⟨k+1,by omega,by rw[← HN.out],by rw[hse];exact hJ3,hnx.trans hk3⟩
    case measure=>first|(simp[intOf];done)|(simp[intOf];omega)
   ·gi_wp2
    refine bodyPost_ret (results_none rfl _ _ _) rfl ?_;exact⟨⟨_,rfl⟩,.inr ⟨_,⟨k+1,by omega,hse.symm⟩,hJx3⟩⟩
  ·obtain rfl:k=zs.length:=by omega
   rw[show (zs.length:Int) - 1 - (zs.length:Int) = -1 by omega] at hi;subst hi
   gi_wp2
   go_end0
   exact⟨⟨_,rfl⟩,.inl ⟨_,rfl,hJs⟩⟩
theorem qs (n:Nat) (hn:1≤n) (Bs b cap:Nat) (zs:List U64) (hreach:zs.length≤1099511627776) (w:World) (hBn:Bs<w.heap.size) (hb:b<w.heap.size)
  (hBs:w.cell? ⟨Bs,0,none⟩=some (.slice (some ⟨b,0,none⟩) zs.length cap)) (hc:∀ j,j<zs.length→w.cell? ⟨b,j,none⟩=some (.int .u64 ((zs[j]?.getD default).1:Int))) :
  SeqStopsK Fence.wide n Tryz.prog 174 #[.pointer (some ⟨Bs,0,none⟩)] (fun x:Nat × U64=>#[Value.int .i64 (x.1:Int),Value.int .u64 (x.2.1:Int)]) (um b Bs) (fun ys=>ys=upto (sH zs) zs.length)
   (fun pre=>∃ k,k≤zs.length∧pre=upto (sH zs) k) zs.length w:=fun l J Jx W hW _ _ hY h0 =>
 nF Fence.wide n trivial rfl hn l Bs b cap zs hreach J Jx hY W ((hW.cell (p:=⟨Bs,0,none⟩) hBn).trans hBs) (fun j hj=>(hW.cell (p:=⟨b,j,none⟩) hb).trans (hc j hj)) h0
theorem rv (a:Option Addr) (len cap:Nat) (w:World) :
  Calls Tryz.prog 158 #[.slice a len cap] w fun e w'=>e=.returned (.func (.func 174) #[] #[.pointer (some ⟨w.heap.size,0,none⟩)])∧w'=w.alloc (.cells #[.slice a len cap] 131):=by
 go_enter Tryz.func158,Tryz.ntmps158
 go_wp2
 go_ret
 exact⟨rfl,rfl⟩
theorem oO {W W' : World} (h:Ext W W'):KeepsOthers W W':=⟨h.size,fun k o hk _=>(h.block k (Array.getElem?_eq_some_iff.1 hk).1).trans hk⟩
theorem Blk.own {A B:World} {row:Option Nat} {g:Nat} {t:TypeId} {cs:List Value} (h:Blk A g t cs) (hg:A.grownBy B row) (hr:∀ r,row=some r→∃ o:Obj,A.heap[r]?=some o∧o.isCells=false):Blk B g t cs:=by
 refine h.grown hg (fun e=>?_);obtain⟨o,h1,h2⟩:=hr g e.symm;unfold Blk at h;rw[h] at h1;cases h1;cases h2
end
section
open Go.RowKit
def bw (x y c:Nat):Nat:=if x<y+c then 1 else 0
theorem iY (x y b:Nat) (hb:b≤1) (w:World) :
  (callFunc 97 #[.int .u64 x,.int .u64 y,.int .u64 b]).run Tryz.prog w =
   .ok (.value (.tuple #[.int .u64 (((x+18446744073709551616 - y - b)%18446744073709551616:Nat):Int),.int .u64 ((bw x y b:Nat):Int)])) w:=by
 rw[run_callFunc_extern (Tryz.func97) (by kernel_rfl) (by kernel_rfl) (by kernel_rfl) (e:=sub64Entry) (by kernel_rfl),run_sub64 x y b hb];rfl
def br (a b:Nat):Nat→Nat
 | 0=>0
 | k+1=>bw (wd k a) (wd k b) (br a b k)
def sb (a b k:Nat):Nat:=(wd k a+18446744073709551616 - wd k b - br a b k)%18446744073709551616
theorem acE (a b k:Nat):br a b k≤1:=by
 cases k with
 | zero=>exact Nat.zero_le _
 | succ k=>simp only[br,bw];split<;>omega
theorem sR (x y c:Nat) (hx:x<18446744073709551616) (hy:y<18446744073709551616) (hc:c≤1) :
  (x+18446744073709551616 - y - c)%18446744073709551616+y+c=x+18446744073709551616*(if x<y+c then 1 else 0)∧(x+18446744073709551616 - y - c)%18446744073709551616<18446744073709551616∧(if x<y+c then 1 else 0:Nat)≤1:=by
 split<;>omega
theorem aah (S A B M c:Nat) (hS:S<M) (hA:A<M) (hB:B<M) (hc:c≤1) (h:S+B=A+M*c):S=(A+M - B)%M∧c=if A<B then 1 else 0:=by
 have:c=0∨c=1:=by omega
 rcases this with rfl|rfl
 ·rw[show A+M - B=S+M by omega,Nat.add_mod_right,Nat.mod_eq_of_lt hS,if_neg (by omega)];exact⟨rfl,rfl⟩
 ·rw[show A+M - B=S by omega,Nat.mod_eq_of_lt hS,if_pos (by omega)];exact⟨rfl,rfl⟩
theorem fO (a b:Nat) (ha:a<zc) (hb:b<zc) (s0 s1 s2 s3 c1 c2 c3 c4:Nat)
  (e0:s0=(wd 0 a+18446744073709551616 - wd 0 b - 0)%18446744073709551616) (f0:c1=if wd 0 a<wd 0 b+0 then 1 else 0)
  (e1:s1=(wd 1 a+18446744073709551616 - wd 1 b - c1)%18446744073709551616) (f1:c2=if wd 1 a<wd 1 b+c1 then 1 else 0)
  (e2:s2=(wd 2 a+18446744073709551616 - wd 2 b - c2)%18446744073709551616) (f2:c3=if wd 2 a<wd 2 b+c2 then 1 else 0)
  (e3:s3=(wd 3 a+18446744073709551616 - wd 3 b - c3)%18446744073709551616) (f3:c4=if wd 3 a<wd 3 b+c3 then 1 else 0) :
  uU s0 s1 s2 s3=(a+zc - b)%zc∧c4=bw a b 0:=by
 have h1:=vF ha;have h2:=vF hb;have:=z7 0 a;have:=z7 1 a;have:=z7 2 a;have:=z7 3 a;have:=z7 0 b;have:=z7 1 b;have:=z7 2 b;have:=z7 3 b;generalize wd 0 a=a0 at *;generalize wd 1 a=a1 at *;generalize wd 2 a=a2 at *;generalize wd 3 a=a3 at *;generalize wd 0 b=b0 at *;generalize wd 1 b=b1 at *;generalize wd 2 b=b2 at *;generalize wd 3 b=b3 at *;obtain⟨g0,l0,m0⟩:=sR a0 b0 0 (by omega) (by omega) (by omega);rw[← e0,← f0] at g0;rw[← e0] at l0;rw[← f0] at m0;obtain⟨g1,l1,m1⟩:=sR a1 b1 c1 (by omega) (by omega) (by omega);rw[← e1,← f1] at g1;rw[← e1] at l1;rw[← f1] at m1;obtain⟨g2,l2,m2⟩:=sR a2 b2 c2 (by omega) (by omega) (by omega);rw[← e2,← f2] at g2;rw[← e2] at l2;rw[← f2] at m2;obtain⟨g3,l3,m3⟩:=sR a3 b3 c3 (by omega) (by omega) (by omega);rw[← e3,← f3] at g3;rw[← e3] at l3;rw[← f3] at m3;have key:uU s0 s1 s2 s3+b=a+zc*c4:=by
  rw[← h1,← h2];clear e0 e1 e2 e3 f0 f1 f2 f3 h1 h2 ha hb l0 l1 l2 l3 m0 m1 m2 m3;simp only[uU,zc];omega
 have hs:=mp l0 l1 l2 l3;clear e0 e1 e2 e3 f0 f1 f2 f3 h1 h2 g0 g1 g2 g3 l0 l1 l2 l3 m0 m1 m2;simp only[bw,Nat.add_zero];exact aah _ _ _ _ _ hs ha hb m3 key
def abQ (a b k:Nat):List Value:=[if 0<k then .int .u64 (sb a b 0:Nat) else .int .u64 0,if 1<k then .int .u64 (sb a b 1:Nat) else .int .u64 0,if 2<k then .int .u64 (sb a b 2:Nat) else .int .u64 0,if 3<k then .int .u64 (sb a b 3:Nat) else .int .u64 0]
theorem ki (a b:Nat) {k:Nat} (h:k<4):(abQ a b k)[k]?=some (.int .u64 0):=by
 have:k=0∨k=1∨k=2∨k=3:=by omega
 rcases this with rfl|rfl|rfl|rfl<;>rfl
theorem cU (a b:Nat) {k:Nat} (h:k<4):(abQ a b k).set k (.int .u64 (sb a b k:Nat))=abQ a b (k+1):=by
 have:k=0∨k=1∨k=2∨k=3:=by omega
 rcases this with rfl|rfl|rfl|rfl<;>rfl
set_option maxRecDepth 100000 in
theorem tu (a b:Nat) (ha:a<zc) (hbb:b<zc) (w:World) :
  Calls Tryz.prog 53 #[ze a,ze b] w fun e w'=>e=.returned (.tuple #[ze ((a+zc - b)%zc),.int .u64 ((bw a b 0:Nat):Int)])∧Below w.heap.size w w':=by
 have hA:=iY
 go_enter Tryz.func53,Tryz.ntmps53
 go_wp2;generalize hW:((w.alloc _).alloc _).alloc _=W;have hg0:Blk W w.heap.size 24 (zb a):=by subst hW;exact ((Blk.new _ _ _).alloc _).alloc _
 have hg1:Blk W (w.heap.size+1) 24 (zb b):=by subst hW;exact (Blk.new' (by simp)).alloc _
 have hg2:Blk W (w.heap.size+1+1) 24 (abQ a b 0):=by subst hW;exact Blk.new' (by simp)
 have hb:Below w.heap.size w W:=by subst hW;exact (((Below.refl _ _).alloc (Nat.le_refl _) _).alloc (by simp) _).alloc (by simp;omega) _
 clear hW
 go_loopw [5,7] (fun c i wr=>∃ k:Nat,k≤4∧i=.int .i64 k∧c=.int .u64 (br a b k:Nat)∧Blk wr w.heap.size 24 (zb a)∧Blk wr (w.heap.size+1) 24 (zb b)∧Blk wr (w.heap.size+1+1) 24 (abQ a b k)∧Below w.heap.size w wr) (fun _ i _=>4 - (intOf i).toNat)
 case atStart=>exact⟨0,by omega,rfl,rfl,hg0,hg1,hg2,hb⟩
 case round =>
  clear hg0 hg1 hg2 hb;obtain⟨k,hk,rfl,rfl,hg0,hg1,hg2,hb⟩:=hrel;have hc:=acE a b k
  by_cases hlt:k<4
  ·have c0:=hg0.cell_at (ve a hlt);have c1:=hg1.cell_at (ve b hlt);have c2:=hg2.cell_at (ki a b hlt);have f2:=hg2.frozen k;go_wp2;have lt0:=hg0.lt;have lt1:=hg1.lt;have lt2:=hg2.lt;refine Kp.wp_region_kpf [11] 13 (by kernel_rfl) (by kernel_rfl) (fun L Fin hL hFin=>?_);have HL:=Lib.hid hL;clear hL;have HF:=Lib.hid hFin;clear hFin;simp only[List.take_succ_cons,List.take_zero,List.drop_succ_cons,List.drop_zero];apply Exists.intro
   repeat ((first|(apply Kp.kp_free;(first|rfl|(rw[HL.out];rfl));(intro w1;go_simp;rfl))|(apply Kp.kp_now;rfl;(first|rfl|(rw[HL.out];rfl));(intro w1 hb1;obtain⟨hcw,hfw⟩:=un hb1;clear hb1;go_simp;rfl)));simp only[Act.put,List.setIfInBounds_toArray,List.set_cons_succ,List.set_cons_zero])
   apply Kp.kp_nil;refine HF.out _ _ (fun w1 hb1 _=>?_);clear HL HF;simp only[List.drop_succ_cons,List.drop_zero];have c3:=(hg2.below hb1 lt2).cell_at (ki a b hlt);have f3:=(hg2.below hb1 lt2).frozen k;go_wp2;refine NoPanic.normal ?_;go_wp2
   go_roundw
   case rel =>
    refine⟨k+1,by omega,by go_num,?_,(hg0.below hb1 lt0).far (by simp;omega) _,(hg1.below hb1 lt1).far (by simp) _,?_,(hb.trans (hb1.mono hb.size)).setCell (by simp;omega) _⟩
    ·simp[br]
    ·rw[← cU a b hlt];exact (hg2.below hb1 lt2).set_ k _
   case measure=>simp[intOf];omega
  ·obtain rfl:k=4:=by omega
   have d0:wr.cell? ⟨w.heap.size+1+1,0,none⟩=some (.int .u64 ((sb a b 0:Nat):Int)):=hg2.cell_at rfl;have d1:wr.cell? ⟨w.heap.size+1+1,1,none⟩=some (.int .u64 ((sb a b 1:Nat):Int)):=hg2.cell_at rfl;have d2:wr.cell? ⟨w.heap.size+1+1,2,none⟩=some (.int .u64 ((sb a b 2:Nat):Int)):=hg2.cell_at rfl;have d3:wr.cell? ⟨w.heap.size+1+1,3,none⟩=some (.int .u64 ((sb a b 3:Nat):Int)):=hg2.cell_at rfl;have ff:=hg2.frozen;clear hA;go_wp2;have hs:=fO a b ha hbb (sb a b 0) (sb a b 1) (sb a b 2) (sb a b 3) (br a b 1) (br a b 2) (br a b 3) (br a b 4) rfl rfl rfl rfl rfl rfl rfl rfl;have hlt:=fun i=>Nat.mod_lt (wd i a+18446744073709551616 - wd i b - br a b i) (show 0<18446744073709551616 by omega);have hv:=se (hlt 0) (hlt 1) (hlt 2) (hlt 3);have ev:Value.agg #[.int .u64 ((sb a b 0:Nat):Int),.int .u64 ((sb a b 1:Nat):Int),.int .u64 ((sb a b 2:Nat):Int),.int .u64 ((sb a b 3:Nat):Int)]=ze ((a+zc - b)%zc):=by rw[← hs.1];exact hv
   refine bodyPost_ret (v:=.tuple #[ze ((a+zc - b)%zc),.int .u64 ((bw a b 0:Nat):Int)]) ?_ rfl ⟨rfl,?_⟩
   ·rw[← ev,← hs.2];simp[results,Tryz.results53,go_sem,d0,d1,d2,d3]
   ·refine ((((hb.setCell ?_ _).setCell ?_ _).setCell ?_ _).setCell ?_ _)<;>(simp;omega)
end
section
open Go.RowKit
theorem bP (n:Nat) (h:n<18446744073709551616):n<zc:=by unfold zc;omega
theorem tO (n:Nat) (h:n<18446744073709551616):Value.agg #[.int .u64 (n:Int),.int .u64 0,.int .u64 0,.int .u64 0]=ze n:=by
 have:=se h (by omega:0<18446744073709551616) (by omega:0<18446744073709551616) (by omega:0<18446744073709551616);simpa [uU] using this
theorem mZ (n:Nat) (h:n<18446744073709551616) (w:World) :
  Calls Tryz.prog 52 #[.int .u64 (n:Int)] w fun e w'=>e=.returned (ze n)∧Below w.heap.size w w':=by
 go_enter Tryz.func52,Tryz.ntmps52
 go_wp2;refine bodyPost_ret (v:=ze n) ?_ rfl ⟨rfl,?_⟩
 ·rw[← tO n h];simp[results,Tryz.results52,go_sem]
 ·exact (Below.refl _ _).alloc (Nat.le_refl _) _
def eqN (a b:Nat):Bool:=decide (a=b)
theorem pc (n:Nat) (h:n<18446744073709551616):Tryz.prog.keyLits 1 22 [.int .u64 (n:Int)]=some [.int .u64 (n:Int)]:=by
 have hw:(Lit.int .u64 (n:Int)).wf=true:=by
  simp[Lit.wf,IntKind.min,IntKind.max,IntKind.signed,IntKind.bits];omega
 simp[Program.keyLits,Tryz.underlying22,hw]
theorem re (a:Nat):Tryz.prog.keyLits 2 24 (zb a)=some [.int .u64 ((wd 0 a:Nat):Int),.int .u64 ((wd 1 a:Nat):Int),.int .u64 ((wd 2 a:Nat):Int),.int .u64 ((wd 3 a:Nat):Int)]:=by
 have c1:Tryz.prog.cellsOf 24=4:=by kernel_rfl
 have c2:Tryz.prog.cellsOf 22=1:=by kernel_rfl
 have k:=fun i=>pc (wd i a) (z7 i a);have r:List.range 4=[0,1,2,3]:=rfl;unfold Program.keyLits;simp[Tryz.underlying24,c1,c2,r,k]
theorem qz {a b:Nat} (ha:a<zc) (hb:b<zc) (w:World) :
  (binOp .eql 24 (ze a) (ze b)).run Tryz.prog w=.ok (.bool (eqN a b)) w:=by
 obtain⟨r,hr,hiff⟩:=run_equalIn_deep (P:=Tryz.prog) 9998 2 24 (by kernel_rfl) w 2 2 (ze a) (ze b)
  [.int .u64 ((wd 0 a:Nat):Int),.int .u64 ((wd 1 a:Nat):Int),.int .u64 ((wd 2 a:Nat):Int),.int .u64 ((wd 3 a:Nat):Int)]
  [.int .u64 ((wd 0 b:Nat):Int),.int .u64 ((wd 1 b:Nat):Int),.int .u64 ((wd 2 b:Nat):Int),.int .u64 ((wd 3 b:Nat):Int)]
  (by kernel_rfl) (by kernel_rfl) (re a) (re b)
 have e:r=eqN a b:=by
  unfold eqN;rw[Bool.eq_iff_iff,hiff];simp only[decide_eq_true_eq,List.cons.injEq,Lit.int.injEq,true_and,and_true,Int.ofNat_inj];constructor
  ·rintro ⟨h0,h1,h2,h3⟩;exact ag ha hb h0 h1 h2 h3
  ·rintro rfl;exact⟨rfl,rfl,rfl,rfl⟩
 subst e;simp only[run_eql_struct,hr,Result.andThen]
theorem zX {a b:Nat} (ha:a<zc) (hb:b<zc) (w:World) :
  (Op.equalIn 10000 24 (ze a) (ze b)).run Tryz.prog w=.ok (eqN a b) w:=by
 have:=qz ha hb w;rw[run_eql_struct] at this;cases h:(Op.equalIn 10000 24 (ze a) (ze b)).run Tryz.prog w with
 | ok r w'=>rw[h] at this;simp only[Result.andThen,Result.ok.injEq,Value.bool.injEq] at this;rw[this.1,this.2]
 | halt h' w'=>rw[h] at this;simp[Result.andThen] at this
attribute [local go_sem] zX
theorem fo {a b:Nat} (h:a=b):eqN a b=true:=by simp[eqN,h]
theorem qX {a b:Nat} (h:a≠b):eqN a b=false:=by simp[eqN,h]
def uo (a b:Nat):Int:=if a=b then 0 else if a<b then -1 else 1
theorem gm (a b:Nat) (ha:a<zc) (hb:b<zc) (w:World) :
  Calls Tryz.prog 22 #[ze a,ze b] w fun e w'=>e=.returned (.int .i64 (uo a b))∧Below w.heap.size w w':=by
 by_cases hab:a=b
 ·have he:=fo hab;have hc:uo a b=0:=by simp[uo,hab]
  clear hab
  go_enter Tryz.func22,Tryz.ntmps22
  go_wp2
  go_ret
  exact⟨by simp[hc],((Ext.rfl' w).alloc' _).alloc' _⟩
 ·have he:=qX hab
  by_cases hlt:a<b
  ·have hc:uo a b = -1:=by simp[uo,hab,hlt]
   have hbw:bw a b 0=1:=by simp[bw,hlt]
   clear hab
   go_enter Tryz.func22,Tryz.ntmps22
   go_wp2_with (go_at_call 53;refine (tu a b ha hb _).mono ?_;rintro e w1 ⟨rfl,hb1⟩)
   go_ret
   exact⟨by simp[hc],(((((Ext.rfl' w).alloc' _).alloc' _).trans' hb1).alloc' _)⟩
  ·have hc:uo a b=1:=by simp[uo,hab,hlt]
   have hbw:bw a b 0=0:=by simp[bw,hlt]
   clear hab
   go_enter Tryz.func22,Tryz.ntmps22
   go_wp2_with (go_at_call 53;refine (tu a b ha hb _).mono ?_;rintro e w1 ⟨rfl,hb1⟩)
   go_ret
   exact⟨by simp[hc],(((((Ext.rfl' w).alloc' _).alloc' _).trans' hb1).alloc' _)⟩
end
section
open Go.RowKit Go.Extern.Stop Go.Stop Go.Extern
namespace Sx
end Sx
end
end Go.Proofs.YtbhblpnjhkddbaaGreat
