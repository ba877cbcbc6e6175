/- Part 13 of the proof. -/
import Derived.Test.YtiaibpcaloigkaaGreatDoorG12
import Derived.Test.YtiaibpcaloigkaaGreatDoorG07
import Derived.Laws.Build
import Derived.Recover
set_option linter.unusedSimpArgs false
set_option linter.unusedVariables false
namespace Go.Proofs.YtiaibpcaloigkaaGreatDoor
section
open Go Go.RowKit Go.BigFrame
namespace Sx
section
variable {P:Program}
def ae4 (w:World) (gs:LN) (post:Ending→List Ent→Prop):Ending→World→Prop:=fun e w'=>e≠.outgrown∧∃ N,Me w gs N w'∧post e N
def FnE (P:Program) (f:FuncId) (args:LV) (L:List Ent) (R:World→Prop) (post:Ending→List Ent→Prop):Prop :=
 ∀ w,(∀ e∈L,e.ok w)→(L.map Ent.g).Nodup→R w→Calls P f args.toArray w (ae4 w (L.map Ent.g) post)
theorem FnE.enter {n:Nat} {f:FuncId} {fn:Func} {c:Code} {args:LV} {L:List Ent} {R:World→Prop} {post:Ending→List Ent→Prop} (hf:P.funcs[f]?=some fn) (hb:fn.body=some c) (hn:fn.ntmps=n) (hle:Nat.ble args.length n=true)
  (k:∀ w,R w→WC P w (L.map Ent.g) n c (bodyPost P fn (ae4 w (L.map Ent.g) post)) (kin args 0) L):FnE P f args L R post:=by
 intro w hok hnd hw;refine calls_of_wp hf hb ?_;subst hn;have hle' : args.length≤fn.ntmps:=by simpa using hle
 exact k w hw _ w rfl (by simp;omega) (pv hle') ⟨.refl _ _,hok,fun e he=>.inr (List.mem_map.2 ⟨e,he,rfl⟩),hnd⟩
def ahV (v:Value):Ending→List Ent→Prop:=fun e _=>e=.panicked [{ v:=v,recovered:=false }]
end
section
variable {P:Program} {w0:World} {gs:LN} {n:Nat} {ops:List Oper} {Q:Exit→Act→World→Prop} {K:List (Nat × Value)} {L:List Ent} {rest:List Oper}
variable {d:Nat} {op:Op} {ty:TypeId} {pos:String} {after:Array Edge} {gd:Option (Nat × Bool)}
theorem WO.callsEV {f:FuncId} [Cal P f] {x:Operand} {xs:Array Operand} {ats:Array TypeId} {ar fs cs ar' : List Value} {M R:List Ent} {Rq:World→Prop} {post:Ending→List Ent→Prop} (hc:FnE P f ar' M Rq post) (hx:ev K x=some (.func (.func f) fs.toArray cs.toArray)) (ha:evs K xs.toList=some ar) (hh:fs++ar++cs=ar')
  (hp:L.Perm (M++R)) (hR:∀ w,Mr w0 gs L w→Rq w) (k:∀ v N,post (.returned v) N→WO P w0 gs n ops Q ((d,v)::K) (N++R) rest)
  (kp:∀ ch N,post (.panicked ch) N→WX w0 gs n (.panic ch) Q K (N++R)) (hd:Nat.blt d n=true:=by rfl) (hw:wk ops K gd=some true:=by rfl) :
  WO P w0 gs n ops Q K L (⟨some d,.call { callee:=.value x,args:=xs,argTypes:=ats },ty,pos,after,gd⟩::rest):=by
 intro a w hdf hsz hk hme;refine wpList_step fun F hF=>?_;rw[if_pos (yF (o:=⟨some d,.call { callee:=.value x,args:=xs,argTypes:=ats },ty,pos,after,gd⟩) hk hw)];have hd' : d<n:=by simpa [Nat.blt_eq] using hd
 have hme':=hme.perm hp;have hnd:=hme'.nodup;rw[List.map_append,List.nodup_append] at hnd;unfold Oper.wp;subst hh;rw[vr hk hx ha,Oper.upon_enter];refine (hc w (fun e he=>hme'.ok e (List.mem_append_left _ he)) hnd.1 (hR w hme.mr)).mono ?_;rintro e w' ⟨he,N,hm,hq⟩;cases e with
 | returned v=>exact hF _ _ (k v N hq _ _ (by rw[put_defers];exact hdf) (by rw[yk];exact hsz) (hk.put Om v) (hme'.callL hm))
 | panicked ch=>exact kp ch N hq a w' hdf hsz hk (hme'.callL hm)
 | outgrown=>exact absurd rfl he
theorem WX.pseq {ch:List PanicEntry} {next:Act→World→Prop} (k:WX w0 gs n (.panic ch) Q K L):WX w0 gs n (.panic ch) (Exit.then next Q) K L:=k
theorem WX.pblk {ch:List PanicEntry} {id:Nat} (k:WX w0 gs n (.panic ch) Q K L):WX w0 gs n (.panic ch) (Exit.inBlock id Q) K L:=k
theorem WX.pfn {ch:List PanicEntry} {fn:Func} {post:Ending→List Ent→Prop} (N:List Ent) (hl:Lle N L) (h:post (.panicked ch) N):WX w0 gs n (.panic ch) (bodyPost P fn (ae4 w0 gs post)) K L:=fun _ _ h1 _ _ h4=>⟨h1,(by intro e;cases e),N,hl.me h4,h⟩
end
def WU (u:FuncId) (P:Program) (c:Code) (Q:Exit→Act→World→Prop) (a:Act) (w:World):Prop :=
 ∀ (b:Frame) (k:List Item) (cs:List Frame),b.roundOf=none→b.fn=u→∃ e a' w',Q e a' w'∧ArrivesIn (Machine.fenced P Fence.wide) P (lone (b.atR a (.code c::k)) cs w) b k cs e a' w'
section
variable {u:FuncId} {P:Program} {Q:Exit→Act→World→Prop} {a:Act} {w:World}
theorem mf {fr:Frame} {cs:List Frame} (ha:fr.about P w=none):(lone fr cs w).fenced P Fence.wide:=fenced_calm (n:=0) trivial (room_wide _) ha
theorem WU.of {c:Code} (h:c.wp P Q a w):WU u P c Q a w:=fun b k cs hro _=>(wpIn_wide (n:=0)).2 h b k cs hro trivial (room_wide _)
theorem WU.seq {x y:Code} (h:WU u P x (Exit.then (WU u P y Q) Q) a w):WU u P (.seq x y) Q a w:=by
 intro b k cs h1 h2;obtain⟨e,a1,w1,hq,ha⟩:=h b (.code y::k) cs h1 h2;have s0:StepsIn (Machine.fenced P Fence.wide) P (lone (b.atR a (.code (.seq x y)::k)) cs w) (lone (b.atR a (.code x::.code y::k)) cs w):=.one (mf rfl) stepR_seq
 by_cases he:e=.normal
 ·subst he;obtain⟨e2,a2,w2,hq2,ha2⟩:=hq b k cs h1 h2;exact⟨e2,a2,w2,hq2,.of_steps (s0.trans ha) ha2⟩
 ·refine⟨e,a1,w1,?_,.of_steps s0 (.pass (x:=.code y) rfl (fun _ _=>.inl he) ha)⟩;cases e<;>first|exact absurd rfl he|exact hq
theorem WU.cond {c:Operand} {x y:Code} {t:Bool} (hc:a.eval c=.bool t) (h:WU u P (if t then x else y) Q a w):WU u P (.cond c x y) Q a w:=fun b k cs h1 h2 =>
 let ⟨e,a',w',q,r⟩:=h b k cs h1 h2;⟨e,a',w',q,.of_steps (.one (mf rfl) (stepR_cond hc)) r⟩
theorem WU.block {id:Nat} {c:Code} (h:WU u P c (Exit.inBlock id Q) a w):WU u P (.block id c) Q a w:=by
 intro b k cs h1 h2;obtain⟨e,a1,w1,hq,ha⟩:=h b (.inBlock id::k) cs h1 h2;have h0:=mf (P:=P) (fr:=b.atR a (.code (.block id c)::k)) (cs:=cs) (w:=w) rfl;have hn:∀ r:Option Nat,b.roundOf=r→r.isSome=true→False:=fun r e hr=>by rw[← e,h1] at hr;cases hr
 cases e with
 | normal=>exact⟨.normal,a1,w1,hq,.head h0 stepR_block (StepsIn.trans ha (.one (mf rfl) stepR_inBlock))⟩
 | exit j =>
  by_cases hj:j=id
  ·simp only[Exit.inBlock,hj,if_true] at hq;exact⟨.normal,a1,w1,hq,.head h0 stepR_block (ha.1 k (by simp[exitTo,hj]))⟩
  ·simp only[Exit.inBlock,hj,if_false] at hq;have hx:exitTo j (.inBlock id::k)=exitTo j k:=by
    have:(id == j)=false:=by simpa using fun h=>hj h.symm
    simp[exitTo,this]
   exact⟨.exit j,a1,w1,hq,fun k' hk=>.head h0 stepR_block (ha.1 k' (by rw[hx];exact hk)),fun hr _=>(hn _ rfl hr).elim⟩
 | goto l=>exact⟨.goto l,a1,w1,hq,fun k' hk=>.head h0 stepR_block (ha.1 k' (by simpa [gotoIn] using hk)),fun hr _=>(hn _ rfl hr).elim⟩
 | ret=>exact⟨.ret,a1,w1,hq,.of_steps (.one h0 stepR_block) ha⟩
 | panic ch=>exact⟨.panic ch,a1,w1,hq,.of_steps (.one h0 stepR_block) ha⟩
 | outgrown=>exact⟨.outgrown,a1,w1,hq,.of_steps (.one h0 stepR_block) ha⟩
theorem WU.loop {σ:Type} {c:Code} (I:σ→Act→World→Prop) (μ:σ→Nat) (s0:σ) (h0:I s0 a w)
  (hr:∀ s a w,I s a w→WU u P c (Exit.then (fun a' w'=>∃ s',μ s' < μ s∧I s' a' w') Q) a w):WU u P (.loop c) Q a w:=by
 intro b k cs h1 h2;have key:∀ j s a w,μ s=j→I s a w→∃ e a' w',Q e a' w'∧ArrivesIn (Machine.fenced P Fence.wide) P (lone (b.atR a (.code c::.inLoop c::k)) cs w) b k cs e a' w':=by
  intro j
  induction j using Nat.strongRecOn with
  | _ j ih =>
   intro s a w hj hI;obtain⟨e,a1,w1,hq,ha⟩:=hr s a w hI b (.inLoop c::k) cs h1 h2
   by_cases he:e=.normal
   ·subst he;obtain⟨s',hlt,hI'⟩:=hq;obtain⟨e2,a2,w2,hq2,ha2⟩:=ih (μ s') (hj ▸ hlt) s' a1 w1 rfl hI';exact⟨e2,a2,w2,hq2,.of_steps (StepsIn.trans ha (.one (mf rfl) stepR_inLoop)) ha2⟩
   ·refine⟨e,a1,w1,?_,.pass (x:=.inLoop c) rfl (fun _ _=>.inl he) ha⟩;cases e<;>first|exact absurd rfl he|exact hq
 obtain⟨e,a',w',hq,ha⟩:=key _ s0 a w rfl h0;exact⟨e,a',w',hq,.of_steps (.one (mf rfl) stepR_loop) ha⟩
theorem WU.calls {n m:Nat} {f:FuncId} {fn:Func} {c:Code} {args:LV} {R:Ending→World→Prop} (hf:P.funcs[f]?=some fn) (hb:fn.body=some c) (hn:fn.ntmps=n) (hle:Nat.ble args.length n=true)
  (k:∀ a,a.defers=[]→a.tmps.size=n→Kn (kin args 0) a→WU f P c (bodyPostM Fence.wide m P fn R) a w):Calls P f args.toArray w R:=by
 subst hn;have hle' : args.length≤fn.ntmps:=by simpa using hle
 refine (callsIn_wide (n:=m)).1 ⟨trivial,fun cs hr=>?_⟩;obtain⟨b,hb0⟩ : ∃ b:Frame,b = { (default:Frame) with fn:=f,kind:=.normal,roundOf:=none }:=⟨_,rfl⟩;have hro:b.roundOf=none:=by rw[hb0]
 have hfn:b.fn=f:=by rw[hb0]
 have hki:b.kind=.normal:=by rw[hb0]
 have hen:Frame.enter P f args.toArray .normal=b.atR { tmps:=args.toArray++Array.replicate (fn.ntmps - args.toArray.size) undef,defers:=[] } [.code c]:=by simp[Frame.enter,Frame.atR,hf,hb,hb0]
 obtain⟨e,a',w',hq,ha⟩:=k { tmps:=args.toArray++Array.replicate (fn.ntmps - args.toArray.size) undef,defers:=[] } rfl (by simp;omega) (fun t v hv=>by have:=pv hle' t v hv;simpa using this) b [] cs hro hfn;rw[← hen] at ha
 have out:∀ (u:FrameMode) (fr:Frame),fr.mode=u→fr.fn=f→fr.kind=.normal→fr.defers=a'.defers→fr.tmps=a'.tmps→LeavesInM Fence.wide m P fn a'.tmps R a'.defers u w' →
   StepsIn (Machine.fenced P Fence.wide) P (lone (Frame.enter P f args.toArray .normal) cs w) (lone fr cs w')→∃ e w'' fr',R e w''∧ComesIn (Machine.fenced P Fence.wide) P (lone (Frame.enter P f args.toArray .normal) cs w) (lone fr' cs w'') e∧fr'.fn=f∧fr'.leaving P w'' e:=by
  intro u fr g1 g2 g3 g4 g5 hl hs;obtain⟨e',w'',fr',hR,hc,h3,h4⟩:=leaves_stepsInM a'.defers u w' fr cs g1 g4 g5 (by rw[g2];exact hf) g3 trivial hr hl;exact⟨e',w'',fr',hR,ComesIn.of_steps hs hc,h3.trans g2,h4⟩
 cases e with
 | normal=>exact out .returning { b.atR a' [] with mode:=.returning } rfl hfn hki rfl rfl hq (StepsIn.trans ha (.one (mf rfl) (stepR_end hro)))
 | ret =>
  obtain⟨todo,hs⟩:=ha.1 hro;exact out .returning { b.atR a' todo with mode:=.returning } rfl hfn hki rfl rfl hq hs
 | panic ch =>
  obtain⟨todo,hs⟩:=ha;exact out (.panicking ch) { b.atR a' todo with mode:=.panicking ch } rfl hfn hki rfl rfl hq hs
 | exit id=>exact hq.elim
 | goto l=>exact hq.elim
 | outgrown =>
  refine⟨.outgrown,w',Frame.enter P f args.toArray .normal,hq,?_,by rw[hen];exact hfn,trivial⟩
  rcases ha with hk|ho
  ·rw[hki] at hk;cases hk
  ·exact ho
end
def agH (P:Program) (l:Nat) (R:Ending→World→Prop):Exit→Act→World→Prop
 | .normal,_,w=>∃ v w',(Instr.endRound l none).run P w=.ok v w'∧R (.returned v) w'
 | .panic ch,a,w=>a.defers=[]∧R (.panicked ch) w
 | _,_,_=>False
theorem fv {F:Fence} {n:Nat} {P:Program} {l:Nat} {f:FuncId} {fn:Func} {tmps:Array Value} {assign body:Code} {w:World} {R:Ending→World→Prop} (hF:F.fn f) (hf:P.funcs[f]?=some fn)
  (h:assign.wpIn (F.inRound l) n P (Exit.then (fun a w1=>∃ w2,(Instr.beginRound l).run P w1=.ok () w2∧body.wpIn (F.inRound l) n P (agH P l R) a w2) (fun _ _ _=>False)) { tmps:=tmps,defers:=[] } w) :
  RoundIn F n P l f tmps assign body w R:=by
 refine⟨hF,fun c cs hr=>?_⟩;obtain⟨b,hb⟩ : ∃ b:Frame,b = { (default:Frame) with fn:=f,kind:=.normal,roundOf:=some l }:=⟨_,rfl⟩;have hro:b.roundOf=some l:=by rw[hb]
 have hfn:b.fn=f:=by rw[hb]
 have hki:b.kind=.normal:=by rw[hb]
 have hb0:Frame.round l f tmps assign body .normal=b.atR { tmps:=tmps,defers:=[] } [.code assign,.beginRound,.code body]:=by simp[Frame.round,Frame.atR,hb]
 have hF' : (F.inRound l).fn b.fn:=by rw[hfn];exact hF
 have hr' : (F.inRound l).room ((c::cs).length+1+n):=hr;obtain⟨e,a1,w1,hq,ha⟩:=h b [.beginRound,.code body] (c::cs) hro hF' hr';rw[← hb0] at ha;cases e with
 | normal =>
  obtain⟨w2,hbr,hbo⟩:=hq;have s1:StepsIn (Machine.fenced P (F.inRound l)) P (lone (b.atR a1 [.beginRound,.code body]) (c::cs) w1) (lone (b.atR a1 [.code body]) (c::cs) w2):=.one (fenced_calm hF' hr' rfl) (stepR_beginRound hro hbr);obtain⟨e2,a2,w3,hq2,ha2⟩:=hbo b [] (c::cs) hro hF' hr';cases e2 with
  | normal =>
   obtain⟨v,w4,hen,hR⟩:=hq2;exact⟨.returned v,w4,hR,(StepsIn.trans ha s1).trans (StepsIn.trans ha2 (.one (fenced_calm (fr:=b.atR a2 []) hF' hr' rfl) (stepR_round_end hro hki hen)))⟩
  | panic ch =>
   obtain⟨todo,hs⟩:=ha2;refine⟨.panicked ch,w3,hq2.2,(StepsIn.trans ha s1).trans (StepsIn.trans hs (.one ?_ ?_))⟩
   ·exact fenced_calm (fr:={ b.atR a2 todo with mode:=.panicking ch }) hF' hr' (by simp[Frame.about,Frame.atR,hq2.1])
   ·exact step_leave_panicked ⟨rfl,hq2.1,fn,by show P.funcs[b.fn]?=some fn;rw[hfn];exact hf⟩
  | exit j=>exact hq2.elim
  | goto j=>exact hq2.elim
  | ret=>exact hq2.elim
  | outgrown=>exact hq2.elim
 | _=>exact hq.elim
def ahL {α:Type} (m:Nat) (P:Program) (gf:Nat) (lb:Array Value) (encs:α→Array Value) (Kp:World→World→Prop) (S:List α→Prop) (N:Nat) (w:World):Prop :=
 ∀ (l:Nat) (J:List α→World→Prop) (E:List PanicEntry→World→Prop) (W:World),Below w.heap.size w W→AbidesFrom W.heap.size J →
  (∀ pre x W1,J pre W1→pre.length<N→YieldAt (fw none) (m - 1) P l (encs x) W1 fun e W'=>(e=.returned (.bool true)∧J (pre++[x]) W'∧Kp W1 W')∨(∃ ch,e=.panicked ch∧E ch W'))→J [] W →
  CallsIn (fw none) m P gf (#[.func (.yield l) #[] #[]]++lb) W fun e W'=>((∃ v,e=.returned v)∧∃ xs,S xs∧J xs W')∨(∃ ch,e=.panicked ch∧E ch W')
def aha {α:Type} (B:Nat) (Kp:World→World→Prop) (I:List α→World→Prop) (E:List PanicEntry→World→Prop) (xs:List α) (W:World):Exit→Act→World→Prop
 | .normal,_,W'=>KeepsFrom B W W'∧Kp W W'∧I xs W'
 | .panic ch,a',W'=>a'.defers=[]∧KeepsFrom B W W'∧E ch W'
 | _,_,_=>False
section
variable {α:Type} {u:FuncId} {P:Program} {Q:Exit→Act→World→Prop} {a:Act} {w:World}
theorem WU.range {fnu:Func} (hfu:P.funcs[u]?=some fnu) {g:Operand} {ps:Array Tmp} {assign body:Code} {gf:Nat} {lb:Array Value} (hg:a.eval g=.func (.func gf) #[] lb) (eg:∀ args w,(callFunc gf args).run P w=.ok (.enter gf args) w)
  {encs:α→Array Value} (hps:∀ x,(encs x).size=ps.size) {Kp:World→World→Prop} {S:List α→Prop} {N m:Nat} (hseq:ahL m P gf lb encs Kp S N w)
  (hKt:∀ {A B C:World},Kp A B→Kp B C→Kp A C) (hKb:∀ (W:World) (l:Nat) (o o' : Obj),w.heap.size≤l→W.heap[l]?=some o→o.isCells=false→o.isWalk=false→Kp W (W.putObj l o'))
  (I:List α→World→Prop) (hI:OwnFrom w.heap.size I) (h0:I [] w) (E:List PanicEntry→World→Prop) (Ax:α→Act→World→Prop) (hAx:∀ x a',OwnFrom w.heap.size (fun (_:Unit) W=>Ax x a' W))
  (hassign:∀ (l:Nat) (pre:List α) (x:α) (W:World) (K:Act→World→Prop),I pre W→(∀ a' W',KeepsFrom w.heap.size W W'→Kp W W'→I pre W'→Ax x a' W'→K a' W') →
   assign.wpIn (fw (some l)) (m - 1) P (Exit.then K (fun _ _ _=>False)) { tmps:=(ps.zip (encs x)).foldl (fun t (p,v)=>t.setIfInBounds p v) a.tmps,defers:=[] } W)
  (hbody:∀ (l:Nat) (pre:List α) (x:α) (a' : Act) (W:World),w.heap.size≤l→I pre W→Ax x a' W→pre.length<N→body.wpIn (fw (some l)) (m - 1) P (aha w.heap.size Kp I E (pre++[x]) W) a' W)
  (hdone:∀ (D:Nat) (xs:List α) (W:World),w.heap.size≤D→S xs→I xs W→W.heap[D]?=some (.deferred (some []))→Q .normal { a with defers:={ target:=.collected D,args:=#[] }::a.defers } W)
  (hpan:∀ (D:Nat) (ch:List PanicEntry) (W:World),w.heap.size≤D→E ch W→W.heap[D]?=some (.deferred (some []))→Q (.panic ch) { a with defers:={ target:=.collected D,args:=#[] }::a.defers } W) :
  WU u P (.rangeFunc g ps assign body) Q a w:=by
 obtain⟨D,hD⟩ : ∃ D,D=w.heap.size:=⟨_,rfl⟩;obtain⟨rec,hrec⟩ : ∃ rec:LoopState→Loop,rec=fun st=>{ state:=st,pending:=none,fn:=u,tmps:=a.tmps,params:=ps,assign,body,defers:=D }:=⟨_,rfl⟩;obtain⟨W1,hW1⟩ : ∃ W1,(w.alloc (.deferred (some []))).alloc (.loop (rec .ready))=W1:=⟨_,rfl⟩;have hen:(Instr.enterLoop u a.tmps ps assign body none).run P w=.ok (D+1,[{ target:=.collected D,args:=#[] }]) W1:=by
  rw[← hW1,hrec,hD];exact run_enterLoop_outer _ _ _ _ _
 have hl1:W1.heap[D+1]?=some (.loop (rec .ready)):=by
  have:=World.alloc_heap_new (w.alloc (.deferred (some []))) (.loop (rec .ready));rw[World.size_alloc] at this;rw[← hW1,hD];exact this
 have hd1:W1.heap[D]?=some (.deferred (some [])):=by
  rw[← hW1,hD];exact (Below.heap_alloc _ _ _ Sm).trans (World.alloc_heap_new w _)
 have hI1:I [] W1:=by rw[← hW1];exact hI.alloc _ (hI.alloc _ h0)
 have hb1:Below w.heap.size w W1:=by
  rw[← hW1];exact (((Below.refl _ w).alloc (Nat.le_refl _) _).alloc Sm _)
 have hs1:W1.heap.size=D+1+1:=by rw[← hW1,hD];simp
 have hcall:=hseq (D+1) (fun pre W=>I pre W∧W.heap[D+1]?=some (.loop (rec .ready))∧W.heap[D]?=some (.deferred (some []))) (fun ch W=>E ch W∧W.heap[D]?=some (.deferred (some []))) W1 hb1
  (fun s A B row hs hgr hr=>by
   have hr' : ∀ r,row=some r→w.heap.size≤r∧∃ o:Obj,A.heap[r]?=some o∧o.isCells=false:=fun r e=>by
    obtain⟨h1,o,h2,h3⟩:=hr r e;exact⟨by omega,o,h2,Obj.not_cells_of_walk h3⟩
   have keep:∀ (k:Nat) (o:Obj),A.heap[k]?=some o→o.isWalk=false→B.heap[k]?=some o:=fun k o hk ho=>(hgr.block k (Array.getElem?_eq_some_iff.1 hk).1 (fun e=>by
    obtain⟨_,o',h2,h3⟩:=hr k e.symm;rw[hk] at h2;cases h2;rw[ho] at h3;cases h3)).trans hk
   exact⟨hI s A B row hs.1 hgr hr',keep _ _ hs.2.1 rfl,keep _ _ hs.2.2 rfl⟩)
  (by
   rintro pre x W ⟨hi,hl,hk⟩ hlen;have hy:=run_yield (P:=P) (args:=encs x) hl (by rw[hrec];exact hps x);rw[hrec] at hy;refine⟨u,_,assign,body,hy,fv trivial hfu (hassign (D+1) pre x W _ hi ?_)⟩;intro a' Wa hkf hkp hia hax;have hl2:=hkf.same _ _ Om hl rfl;have hk2:=hkf.same _ _ Om hk rfl;have hlt:D+1<Wa.heap.size:=(Array.getElem?_eq_some_iff.1 hl2).1;refine⟨_,run_beginRound hl2 (by rw[hrec]),?_⟩;obtain⟨Wb,hWb⟩ : ∃ Wb,Wb=Wa.putObj (D+1) (.loop { rec .ready with state:=.busy }):=⟨_,rfl⟩;rw[← hWb];have hl3:Wb.heap[D+1]?=some (.loop { rec .ready with state:=.busy }):=by rw[hWb];exact World.putObj_heap_same hlt
   have hk3:Wb.heap[D]?=some (.deferred (some [])):=by rw[hWb];exact (World.putObj_heap_other Om).trans hk2
   have hp3:Kp Wa Wb:=by rw[hWb];exact hKb _ _ _ _ Om hl2 rfl rfl
   have hi3:I pre Wb:=by rw[hWb];exact hI.putObj _ hia Om hl2 rfl
   have hx3:Ax x a' Wb:=by rw[hWb];exact (hAx x a').putObj (s:=()) _ hax Om hl2 rfl
   refine wpIn_mono (hbody (D+1) pre x a' Wb Om hi3 hx3 hlen) ?_;rintro e a3 W3 hp;cases e with
   | normal =>
    obtain⟨hk4,hp4,hi4⟩:=hp;have hl4:=hk4.same _ _ Om hl3 rfl;have hd4:=hk4.same _ _ Om hk3 rfl;have hen:=run_endRound (P:=P) none hl4;refine⟨_,_,hen,.inl ⟨rfl,⟨hI.putObj _ hi4 Om hl4 rfl,?_,(World.putObj_heap_other Om).trans hd4⟩,hKt hkp (hKt (hKt hp3 hp4) (hKb _ _ _ _ Om hl4 rfl rfl))⟩⟩;rw[World.putObj_heap_same (Array.getElem?_eq_some_iff.1 hl4).1,hrec];rfl
   | panic ch=>exact⟨hp.1,.inr ⟨ch,rfl,hp.2.2,hp.2.1.same _ _ Om hk3 rfl⟩⟩
   | exit j=>exact hp.elim
   | goto j=>exact hp.elim
   | ret=>exact hp.elim
   | outgrown=>exact hp.elim) ⟨hI1,hl1,hd1⟩
 intro b k cs hro hfn;have he:(Instr.enterLoop b.fn a.tmps ps assign body b.roundOf).run P w=.ok (D+1,[{ target:=.collected D,args:=#[] }]) W1:=by rw[hro,hfn];exact hen
 have hres:(resolve a.eval (rangeCall g (D+1)) 0).run P W1=.ok { target:=.fn (.func gf) lb,args:=#[.func (.yield (D+1)) #[] #[]] } W1:=by
  simp only[resolve,hg];simp[go_sem]
 have hinv:(invoke (.fn (.func gf) lb) #[.func (.yield (D+1)) #[] #[]]).run P W1=.ok (.enter gf (#[.func (.yield (D+1)) #[] #[]]++lb)) W1:=by simp[invoke,go_sem,eg]
 have hst:=stepR_rangeFunc (P:=P) (b:=b) (a:=a) (k:=k) (cs:=cs) (w:=w) he hres hinv;have f0:(lone (b.atR a (.code (.rangeFunc g ps assign body)::k)) cs w).fenced P Fence.wide:=fenced_lone (.inl trivial) (fun _ _=>trivial) (room_wide _);obtain⟨e,w3,fr,hR,hco,hff,hlv⟩:=hcall.2 (b.atR { a with defers:=[{ target:=.collected D,args:=#[] }]++a.defers } (.inRangeFunc (D+1)::k)::cs) (room_wide _);have hl:(lone fr (b.atR { a with defers:=[{ target:=.collected D,args:=#[] }]++a.defers } (.inRangeFunc (D+1)::k)::cs) w3).fenced P Fence.wide:=fenced_lone (.inl trivial) (fun _ _=>trivial) (room_wide _)
 rcases hR with ⟨⟨v,rfl⟩,xs,hS,hi,hlr,hk⟩|⟨ch,rfl,hE,hk⟩
 ·have hend:=run_endLoop (P:=P) hlr (by rw[hrec];simp);refine⟨.normal,_,_,hdone D xs (w3.putObj (D+1) (.loop { rec .ready with state:=.exhausted })) Om hS (hI.putObj _ hi Om hlr rfl) ((World.putObj_heap_other Om).trans hk),?_⟩;have s2:StepsIn (Machine.fenced P Fence.wide) P (lone (b.atR { a with defers:=[{ target:=.collected D,args:=#[] }]++a.defers } (.endRangeFunc (D+1)::k)) cs w3) (lone (b.atR { a with defers:={ target:=.collected D,args:=#[] }::a.defers } k) cs (w3.putObj (D+1) (.loop { rec .ready with state:=.exhausted }))):=by
   refine .one (mf rfl) ?_;have:=stepR_endRangeFunc (P:=P) (b:=b) (a:={ a with defers:=[{ target:=.collected D,args:=#[] }]++a.defers }) (k:=k) (cs:=cs) hend;rw[this,hrec];rfl
  refine .head f0 hst (StepsIn.trans hco (.head hl ?_ s2));rw[← finish_atR_inRangeFunc (D+1) v];exact step_leave_returned hlv
 ·refine⟨.panic ch,_,w3,hpan D ch w3 Om hE hk,.inRangeFunc (D+1)::k,.head f0 hst (StepsIn.trans hco (.one hl ?_))⟩;have:=step_leave_panicked (P:=P) (c:=b.atR { a with defers:=[{ target:=.collected D,args:=#[] }]++a.defers } (.inRangeFunc (D+1)::k)) (cs:=cs) hlv;rw[Frame.raise_atR] at this;exact this
end
end Sx
end
section
open Go Go.RowKit Go.BigFrame
namespace Sx
open Kp
theorem jJ {P:Program} {ops:List Oper} {fl:LN} {w0:World} {K:Nat→zT→Kind} (ds:List Deferred) {Fin Fin' : Act→(Nat→World→Prop)→List (List Nat)→Prop} (hF:∀ a F G,Fin' a F G→Fin (dfA ds a) F G) {s:zT}:∀ {l:List Oper} {i:Nat} {a:Act} {F:Nat→World→Prop} {G:List (List Nat)},
  chain P ops fl w0 K Fin' s l i a F G→chain P ops fl w0 K Fin s l i (dfA ds a) F G
 | [],_,_,_,_,h=>hF _ _ _ h
 | o::l,i,a,F,G,h=>⟨h.1,fun hs=>by rw[tE];exact jJ ds hF (h.2 hs)⟩
section
variable {u:FuncId} {P:Program} {w0:World} {gs:LN} {n:Nat} {Q:Exit→Act→World→Prop} {K:List (Nat × Value)} {L:List Ent} {ds:List Deferred} {a:Act} {w:World}
theorem acF (hd:a.defers=ds):dfA ds { tmps:=a.tmps,defers:=[] }=a:=by cases a;subst hd;rfl
theorem WU.reg {id:Nat} {l:List Oper} (hd:a.defers=ds) (hs:a.tmps.size=n) (hk:Kn K a) (hm:Me w0 gs L w) (k:WO P w0 gs n l (fun e a w=>Q e (dfA ds a) w) K L l):WU u P (.region id l.toArray false) Q a w:=by
 refine WU.of (wp_region_lit ?_);have:=uA ds (k { tmps:=a.tmps,defers:=[] } w rfl hs hk hm);rwa [acF hd] at this
theorem WU.draw {id:Nat} {l hd tl:List Oper} [Mix P] (h:Nat) (hdf:a.defers=ds) (hs:a.tmps.size=n) (hk:Kn K a) (hm:Me w0 gs L w) (k:DQ P w0 gs n [] (fun e a w=>Q e (dfA ds a) w) l L tl 0 hd (fun _=>True) (fun _=>K) (fun _=>[]))
  (h1:l.take h=hd:=by (simp only[List.take_succ_cons,List.take_zero]<;>rfl)) (h2:l.drop h=tl:=by (simp only[List.drop_succ_cons,List.drop_zero]<;>rfl)) (hB:yL l [] h=true:=by decide +kernel):WU u P (.region id l.toArray true) Q a w:=by
 subst h1;subst h2;obtain⟨ks,k1,k2,k3⟩:=k;refine WU.of (tz [] h ks Mix.out hB (.inl rfl) (fun i=>k1 i (Nat.zero_le _)) (fun i s=>k2 i s (Nat.zero_le _)) (fun s=>?_))
 have:=jJ ds (Fin:=fun a' F' G'=>∀ w',Below w.heap.size w w'→(∀ j,F' j w')→G'.Pairwise apart→(∀ x∈G',∀ g∈x,w.heap.size≤g)→wpList P l.toArray Q (l.drop h) a' w')
  (fun a F G hF w' g1 g2 g3 g4=>uA ds (hF w' g1 g2 g3 g4)) (k3 s { tmps:=a.tmps,defers:=[] } w (fun _ _=>True) [] trivial rfl hs hk hm .nil Sm (fun _ _ _=>trivial) Sm Sm)
 rwa [acF hdf] at this
inductive Marks (w:World):List Deferred→List Nat→Prop
 | nil:Marks w [] []
 | cons {D:Nat} {ds:List Deferred} {l:LN}:w.heap[D]?=some (.deferred (some []))→D ∉ l→Marks w ds l→Marks w ({ target:=.collected D,args:=#[] }::ds) (D::l)
theorem Marks.keep {w w' : World} {ds:List Deferred} {l:LN} (h:Marks w ds l) (hk:∀ D∈l,w'.heap[D]?=w.heap[D]?):Marks w' ds l:=by
 induction h with
 | nil=>exact .nil
 | cons h1 h2 _ ih=>exact .cons ((hk _ Sm).trans h1) h2 (ih (fun D hD=>hk D (by simp[hD])))
theorem Marks.lt {w:World} {ds:List Deferred} {l:LN} (h:Marks w ds l):∀ D∈l,D<w.heap.size:=by
 induction h with
 | nil=>simp
 | cons h1 _ _ ih =>
  intro D hD
  rcases List.mem_cons.1 hD with rfl|hD
  ·exact (Array.getElem?_eq_some_iff.1 h1).1
  ·exact ih D hD
theorem Marks.leave {fn:Func} {tmps:Array Value} {R:Ending→World→Prop} {m:Nat} {md:FrameMode} (hmd:md≠.run):∀ {l:LN} {ds:List Deferred} {w:World},Marks w ds l →
  (∀ w',(∀ k,k ∉ l→w'.heap[k]?=w.heap[k]?)→w'.heap.size=w.heap.size→w'.os=w.os→w'.tape=w.tape→w'.output=w.output→LeavesIn Fence.wide m P fn tmps R [] md w')→LeavesInM Fence.wide m P fn tmps R ds md w
 | _,_,w,.nil,k=>k w (fun _ _=>rfl) rfl rfl rfl rfl
 | _,_,w,.cons (D:=D) h1 h2 h3,k=>by
  refine⟨hmd,.inl ⟨D,_,rfl,run_takeDeferred h1,?_⟩⟩;have hs:(w.putObj D (.deferred none)).heap.size=w.heap.size:=World.putObj_size;refine Marks.leave hmd (h3.keep (w':=w.putObj D (.deferred none)) (fun j hj=>World.putObj_heap_other (fun e=>h2 (e ▸ hj)))) (fun w' g1 g2 g3 g4 g5=>k w' (fun j hj=>?_) (g2.trans hs) g3 g4 g5);rw[g1 j (fun h=>hj (List.mem_cons_of_mem _ h))];exact World.putObj_heap_other (fun e=>hj (e ▸ List.mem_cons_self))
end
theorem pe {ro:Option Nat} {m:Nat} {P:Program} {ops:Array Oper} {Q:Exit→Act→World→Prop} (hQ:¬ LetsOut Q) (hd:∀ (i:Nat) (o:Oper),ops[i]?=some o→∀ c,o.op≠.defer c):∀ (f:Nat) (S:Array Bool) (a:Act) (w:World),wpAny P .any ops Q f S a w→wpAnyIn (fw ro) m P .any ops Q f S a w
 | 0,_,_,_,h=>h
 | f+1,S,a,w,h=>⟨h.1,fun i hi=>by
  have h1:=h.2 i hi;unfold wpOp at h1;unfold wpOpIn;cases ho:ops[i]? with
  | none=>rw[ho] at h1;exact pe hQ hd f _ _ _ h1
  | some o =>
   rw[ho] at h1;simp only at h1 ⊢
   split at h1
   ·rename_i hw;rw[if_pos hw]
    rcases h1 with h1|h1
    ·exact Oper.wpIn_mono (fun a' w' h'=>pe hQ hd f _ a' w' h') (rx (hd i o ho) h1)
    ·exact absurd h1.2 hQ
   ·rename_i hw;rw[if_neg hw];exact⟨fun _ _=>trivial,pe hQ hd f _ _ _ h1⟩⟩
theorem rB {l:List Oper} (h:tq l=true):∀ (i:Nat) (o:Oper),l.toArray[i]?=some o→∀ c,o.op≠.defer c:=fun i o ho=>tm h o (List.mem_of_getElem? (by simpa using ho))
def Quo (P:Program) (w0:World) (gs:LN) (K:List (Nat × Value)) (L:List Ent) (o:Oper) (v:Value):Prop :=
 ∀ a w,Kn K a→Me w0 gs L w→o.wp P a w (fun a' w'=>a'=a.put o.dst v∧Me w0 gs L w') (fun _ _ _=>False)
theorem cZ {P:Program} {o:Oper} {a:Act} {w:World} {k k' : Act→World→Prop} {Q:Exit→Act→World→Prop} (hk:∀ a w,k a w→k' a w) (h:o.wp P a w k (fun _ _ _=>False)):o.wp P a w k' Q:=by
 unfold Oper.wp at *;generalize (execOp a.eval o).run P w=r at *;cases r with
 | ok n w' =>
  cases n<;>simp only[Oper.upon] at h ⊢<;>first
   | exact hk _ _ h
   | exact Calls.mono h (fun e w'' he=>by cases e<;>first|exact hk _ _ he|exact he.elim|(obtain⟨_,_,h⟩:=he;exact h.elim))
   | exact Rows.mono h (fun v w'' he=>hk _ _ he)
   | exact h
 | halt x w'=>cases x<;>simp only[Oper.upon] at h ⊢
section
variable {P:Program} {w0:World} {gs:LN} {K:List (Nat × Value)} {L:List Ent}
theorem Quo.does {o:Oper} {v:Value} (h:Does P w0 gs K L o.op o.type v):Quo P w0 gs K L o v:=fun a w hk hm=>by
 unfold Oper.wp;rw[h a w hk hm.mr o rfl rfl];exact⟨rfl,hm⟩
theorem Quo.call {f:FuncId} [Cal P f] {x:Operand} {xs:Array Operand} {ats:Array TypeId} {vs fs cs ar:LV} {R:World→Prop} {v:Value} {d:Option Tmp} {ty:TypeId} {pos:String} {after:Array Edge} {gd:Option (Nat × Bool)}
  (hc:Fn P f ar R (Is v)) (hx:ev K x=some (.func (.func f) fs.toArray cs.toArray)) (ha:evs K xs.toList=some vs) (hh:fs++vs++cs=ar) (hR:∀ w,Mr w0 gs L w→R w) :
  Quo P w0 gs K L ⟨d,.call { callee:=.value x,args:=xs,argTypes:=ats },ty,pos,after,gd⟩ v:=fun a w hk hm=>by
 unfold Oper.wp;subst hh;rw[vr hk hx ha,Oper.upon_enter];refine (hc w (hR w hm.mr)).mono ?_;rintro e w' ⟨u,N,rfl,hb,_,rfl⟩;exact⟨rfl,hm.below hb⟩
end
section
variable (P:Program) (w0:World) (gs:LN) (ops:List Oper)
inductive Tlq (K0:List (Nat × Value)) (L:List Ent) (T:List (Nat × Value)):List (Nat × Value)→Prop
 | nil:Tlq K0 L T []
 | cons {i:Nat} {v:Value} {r:List (Nat × Value)} {o:Oper}:nth ops i=some o→Quo P w0 gs (tvs ops T (dps ops i)++K0) L o v→Tlq K0 L T r→Tlq K0 L T ((i,v)::r)
end
theorem Tlq.at {P:Program} {w0:World} {gs:LN} {ops:List Oper} {K0:List (Nat × Value)} {L:List Ent} {T:List (Nat × Value)} {i:Nat} {v:Value}:∀ {R:List (Nat × Value)},Tlq P w0 gs ops K0 L T R→lk R i=some v→∃ o,nth ops i=some o∧Quo P w0 gs (tvs ops T (dps ops i)++K0) L o v
 | _,.nil,h=>by cases h
 | (k,u)::r,.cons h1 h2 h3,h=>by
  rw[sq] at h;cases hb:Nat.beq k i with
  | true =>
   rw[hb] at h;have e:k=i:=Nat.eq_of_beq_eq_true hb;subst e;cases h;exact⟨_,h1,h2⟩
  | false=>rw[hb] at h;exact h3.at h
def aho (ops:List Oper) (p:Nat) (ts:LN) (n:Nat):Bool :=
 ((List.range ops.length).all fun i=>((dps ops i).all fun j=>decide (j<i)) && (decide (i=p) || ts.contains i || (dps ops i).any fun j=>decide (j=p) || !ts.contains j)) &&
 (ts.all fun i=>decide (i≠p) && mG ops i && decide (sR ops i<n) && (dps ops i).all (fun j=>ts.contains j) && (List.range ops.length).all fun j=>decide (j=i) || ((nth ops j).map (fun o=>decide (o.dst≠some (sR ops i)))).getD true) && decide (p<ops.length) && (dps ops p).all (fun j=>ts.contains j)
section
variable {P:Program} {w0:World} {gs:LN} {n:Nat} {ops:List Oper} {Q:Exit→Act→World→Prop} {T K0:List (Nat × Value)} {L:List Ent} {p:Nat}
theorem ac3 {op:Oper} (hc:aho ops p (T.map Prod.fst) n=true) (hT:Tlq P w0 gs ops K0 L T T) (hfree:((T.map Prod.fst).all fun i=>(lk K0 (sR ops i)).isNone)=true) (hop:nth ops p=some op)
  (hp:WO P w0 gs n ops (Qk (fun _ _=>False) Q) (tvs ops T (dps ops p)++K0) L [op]):∀ (f:Nat) (S:List Bool) (a:Act) (w:World),S.length=ops.length→S.count false≤f→(∀ i,i ∉ T.map Prod.fst→S[i]?≠some true)→a.defers=[]→a.tmps.size=n→Kn K0 a →
  (∀ i v,lk T i=some v→S[i]?=some true→a.tmps[sR ops i]?=some v)→Me w0 gs L w→wpAny P .any ops.toArray Q f S.toArray a w:=by
 unfold aho at hc;simp only[Bool.and_eq_true,List.all_eq_true,List.any_eq_true,List.mem_range,bne_iff_ne,decide_eq_true_eq,Bool.or_eq_true,List.contains_iff_mem,Bool.not_eq_true',← Bool.not_eq_true] at hc;obtain⟨⟨⟨c1,c2⟩,c3⟩,c4⟩:=hc;have hfree:∀ i∈T.map Prod.fst,lk K0 (sR ops i)=none:=fun i hi=>by simpa using List.all_eq_true.1 hfree i hi
 have hpT:p ∉ T.map Prod.fst:=fun h=>(c2 p h).1.1.1.1 rfl;have hpS:∀ S:List Bool,S.length=ops.length→(∀ i,i ∉ T.map Prod.fst→S[i]?≠some true)→S[p]?=some false:=fun S hl hd=>by
  have h1:p<S.length:=by omega
  rw[List.getElem?_eq_getElem h1];cases hb:S[p] with
  | false=>rfl
  | true=>exact absurd (by rw[List.getElem?_eq_getElem h1,hb]) (hd p hpT)
 intro f
 induction f with
 | zero =>
  intro S a w h1 h2 h3;have:0<S.count false:=List.count_pos_iff.2 (List.mem_of_getElem? (hpS S h1 h3));omega
 | succ f ih =>
  intro S a w h1 h2 h3 h4 h5 h6 h7 h8;refine⟨fun hr=>?_,fun i hi=>?_⟩
  ·have:=sj h1 (fun i hi j hj=>(c1 i hi).1 j hj) hr p c3;rw[hpS S h1 h3] at this;cases this
  rw[List.setIfInBounds_toArray];obtain⟨hil,hiS,hid⟩:=vH h1 hi;have hdT:∀ j∈dps ops i,j∈T.map Prod.fst:=fun j hj=>by
   by_cases h:j∈T.map Prod.fst
   ·exact h
   ·exact absurd (hid j hj) (h3 j h)
  rcases (c1 i hil).2 with (e|e)|⟨j,hj,e⟩
  ·subst e;have hkn:Kn (tvs ops T (dps ops i)++K0) a:=je (ln fun j hj u hu=>h7 j u hu (hid j hj)) h6;have ho2:ops.toArray[i]?=some op:=by simpa [um] using hop
   exact wpOp_mono (fun a' w' h'=>h'.elim) (lQ ho2 (hp a w h4 h5 hkn h8))
  ·obtain⟨v,hv⟩:=pG.2 e;obtain⟨o,ho,hdo⟩:=hT.at hv;obtain⟨⟨⟨⟨_,hd1⟩,hd2⟩,_⟩,hap⟩:=c2 i e;have hod:o.dst=some (sR ops i)∧o.guard=none:=by
    unfold mG at hd1;unfold sR;rw[ho] at hd1 ⊢;obtain⟨od,_,_,_,_,og⟩:=o;cases od with
    | none=>simp at hd1
    | some d=>cases og with
     | none=>exact⟨rfl,rfl⟩
     | some g=>simp at hd1
   have hkn:Kn (tvs ops T (dps ops i)++K0) a:=je (ln fun j hj u hu=>h7 j u hu (hid j hj)) h6;have ho2:ops.toArray[i]?=some o:=by simpa [um] using ho
   have hw:Region.wanted o (yielded ops.toArray a.tmps)=true:=by unfold Region.wanted;rw[hod.2]
   unfold wpOp;simp only[ho2];rw[if_pos hw];left;refine cZ ?_ (hdo a w hkn h8);rintro a' w' ⟨rfl,hm'⟩;refine ih _ _ _ (by rw[List.length_set];exact h1) (rH hiS h2) (fun j hj=>?_) (by rw[put_defers];exact h4) (by rw[yk];exact h5) (fun t u ht=>?_) (fun j u hu hj=>?_) hm'
   ·rw[List.getElem?_set_ne (fun h:i=j=>hj (h ▸ e))];exact h3 j hj
   ·have hne:o.dst≠some t:=fun e'=>by
     rw[hod.1] at e';cases e';rw[hfree i e] at ht;cases ht
    rw[yS _ _ _ hne];exact h6 t u ht
   ·by_cases e' : j=i
    ·subst e';rw[hv] at hu;cases hu;rw[hod.1];simp only[Act.put];rw[Array.getElem?_setIfInBounds,if_pos rfl,if_pos Om]
    ·rw[List.getElem?_set_ne (fun h=>e' h.symm)] at hj;have hjt:j∈T.map Prod.fst:=pG.1 ⟨u,hu⟩;have hne:o.dst≠some (sR ops j):=by
      rcases (c2 j hjt).2 i hil with h|h
      ·exact absurd h.symm e'
      ·rw[ho] at h;simpa using h
     rw[yS _ _ _ hne];exact h7 j u hu hj
  ·exfalso
   rcases e with rfl|e
   ·exact hpT (hdT j hj)
   ·exact e (hdT j hj)
end
end Sx
end
section
open Go Go.RowKit Go.BigFrame
namespace Sx
def Qux (P:Program) (w0:World) (gs:LN) (K:List (Nat × Value)) (L:List Ent) (o:Oper) (v:Value):Prop :=
 ∀ a w,Kn K a→Mr w0 gs L w→o.wp P a w (fun a' w'=>a'=a.put o.dst v∧Below w.heap.size w w') (fun _ _ _=>False)
section
variable {P:Program} {w0:World} {gs:LN} {K:List (Nat × Value)} {L:List Ent}
theorem Qux.does {o:Oper} {v:Value} (h:Does P w0 gs K L o.op o.type v):Qux P w0 gs K L o v:=fun a w hk hm=>by
 unfold Oper.wp;rw[h a w hk hm o rfl rfl];exact⟨rfl,Below.refl _ _⟩
theorem Qux.call {f:FuncId} [Cal P f] {x:Operand} {xs:Array Operand} {ats:Array TypeId} {vs fs cs ar:LV} {R:World→Prop} {v:Value} {d:Option Tmp} {ty:TypeId} {pos:String} {after:Array Edge} {gd:Option (Nat × Bool)}
  (hc:Fn P f ar R (Is v)) (hx:ev K x=some (.func (.func f) fs.toArray cs.toArray)) (ha:evs K xs.toList=some vs) (hh:fs++vs++cs=ar) (hR:∀ w,Mr w0 gs L w→R w) :
  Qux P w0 gs K L ⟨d,.call { callee:=.value x,args:=xs,argTypes:=ats },ty,pos,after,gd⟩ v:=fun a w hk hm=>by
 unfold Oper.wp;subst hh;rw[vr hk hx ha,Oper.upon_enter];refine (hc w (hR w hm)).mono ?_;rintro e w' ⟨u,N,rfl,hb,_,rfl⟩;exact⟨rfl,hb⟩
inductive Tlv (P:Program) (w0:World) (gs:LN) (ops:List Oper) (K0:List (Nat × Value)) (Lc:List Ent) (T:List (Nat × Value)) (ex:LN):List (Nat × Value)→Prop
 | nil:Tlv P w0 gs ops K0 Lc T ex []
 | cons {i:Nat} {v:Value} {r:List (Nat × Value)} {o:Oper}:nth ops i=some o→Qux P w0 gs (tvs ops T (dps ops i)++K0) Lc o v→Tlv P w0 gs ops K0 Lc T ex r→Tlv P w0 gs ops K0 Lc T ex ((i,v)::r)
 | skip {i:Nat} {v:Value} {r:List (Nat × Value)}:ex.contains i=true→Tlv P w0 gs ops K0 Lc T ex r→Tlv P w0 gs ops K0 Lc T ex ((i,v)::r)
theorem Tlv.at {ops:List Oper} {K0:List (Nat × Value)} {Lc:List Ent} {T:List (Nat × Value)} {ex:LN} {i:Nat} {v:Value}:∀ {R:List (Nat × Value)},Tlv P w0 gs ops K0 Lc T ex R→lk R i=some v→ex.contains i=true∨∃ o,nth ops i=some o∧Qux P w0 gs (tvs ops T (dps ops i)++K0) Lc o v
 | _,.nil,h=>by cases h
 | (k,u)::r,.cons h1 h2 h3,h=>by
  rw[sq] at h;cases hb:Nat.beq k i with
  | true =>
   rw[hb] at h;have e:k=i:=Nat.eq_of_beq_eq_true hb;subst e;cases h;exact .inr ⟨_,h1,h2⟩
  | false=>rw[hb] at h;exact h3.at h
 | (k,u)::r,.skip h1 h3,h=>by
  rw[sq] at h;cases hb:Nat.beq k i with
  | true=>exact .inl (by rw[← Nat.eq_of_beq_eq_true hb];exact h1)
  | false=>rw[hb] at h;exact h3.at h
end
def lu (ops:List Oper) (main ts:LN) (n:Nat):Bool :=
 ((List.range ops.length).all fun i=>(main.contains i != ts.contains i) && (dps ops i).all fun j=>decide (j<i)) &&
 (ts.all fun i=>mG ops i && decide (sR ops i<n) && (List.range ops.length).all fun j=>decide (j=i) || ((nth ops j).map (fun o=>decide (o.dst≠some (sR ops i)))).getD true) && main.all fun i=>decide (i<ops.length)
structure ahX (ops:List Oper) (main ts:LN) (n:Nat):Prop where
 one:∀ i,i<ops.length→(main.contains i≠ts.contains i)
 ac:∀ i,i<ops.length→∀ j∈dps ops i,j<i
 dst:∀ i∈ts,mG ops i=true∧sR ops i<n
 apart:∀ i∈ts,∀ j o,nth ops j=some o→j≠i→o.dst≠some (sR ops i)
 len:∀ i∈main,i<ops.length
theorem lu.spec {ops:List Oper} {main ts:LN} {n:Nat} (h:lu ops main ts n=true):ahX ops main ts n:=by
 unfold lu at h;simp only[Bool.and_eq_true,List.all_eq_true,List.mem_range,bne_iff_ne,decide_eq_true_eq,Bool.or_eq_true] at h;obtain⟨⟨h1,h2⟩,h4⟩:=h;refine⟨fun i hi=>(h1 i hi).1,fun i hi=>(h1 i hi).2,fun i hi=>(h2 i hi).1,fun i hi j o ho hne=>?_,h4⟩;have hj:j<ops.length:=by
  rcases Nat.lt_or_ge j ops.length with h|h
  ·exact h
  ·rw[um,List.getElem?_eq_none h] at ho;cases ho
 rcases (h2 i hi).2 j hj with e|e
 ·exact absurd e hne
 ·rw[ho] at e;simpa using e
section
variable (P:Program) (w0:World) (gs:LN) (n:Nat) (ops:List Oper) (Q:Exit→Act→World→Prop)
variable (main:LN) (T:List (Nat × Value))
structure Stz (D:LN) (K:List (Nat × Value)) (L:List Ent) (f:Nat) (S:List Bool) (a:Act) (w:World):Prop where
 len:S.length=ops.length
 cnt:S.count false≤f
 mn:∀ m,main.contains m=true→(S[m]?=some true↔D.contains m=true)
 cl:∀ i,S[i]?=some true→∀ j∈dps ops i,S[j]?=some true
 df:a.defers=[]
 sz:a.tmps.size=n
 kn:Kn K a
 tl:∀ i v,lk T i=some v→S[i]?=some true→a.tmps[sR ops i]?=some v
 me:Me w0 gs L w
def WT (D:LN) (K:List (Nat × Value)) (L:List Ent):Prop :=
 ∀ (f:Nat) (S:List Bool) (a:Act) (w:World),Stz w0 gs n ops main T D K L f S a w→wpAny P .any ops.toArray Q f S.toArray a w
def MT (o:Oper) (K:List (Nat × Value)) (D:LN):Act→World→Prop:=fun a w=>a.defers=[]∧a.tmps.size=n∧∃ K' L,WT P w0 gs n ops Q main T D (K'++K) L∧Kn K' a∧Me w0 gs L w∧(∀ d,o.dst=some d→(∃ v,lk K' d=some v)∨lk K d=none)
def aaB (p:Nat→Prop):List Nat→Prop
 | []=>True
 | a::l=>p a∧aaB p l
theorem aaB.mem {p:Nat→Prop}:∀ {l:LN},aaB p l→∀ {i},l.contains i=true→p i
 | [],_,i,hi=>by simp at hi
 | a::l,h,i,hi=>by
  rw[List.contains_cons,Bool.or_eq_true] at hi
  rcases hi with hi|hi
  ·have e:i=a:=by simpa using hi
   exact e ▸ h.1
  ·exact h.2.mem hi
def ag1 (D cs:LN):Bool:=main.all (fun m=>D.contains m || cs.contains m || (dps ops m).any fun j=>main.contains j && !D.contains j) && main.any fun m=>!D.contains m
end
section
variable {P:Program} {w0:World} {gs:LN} {n:Nat} {ops:List Oper} {Q:Exit→Act→World→Prop} {main:LN} {T K0 K:List (Nat × Value)} {Lc L:List Ent} {D ex:LN}
theorem WT.loop (hc:lu ops main (T.map Prod.fst) n=true) (hT:Tlv P w0 gs ops K0 Lc T ex T) (hex:(ex.all fun i=>D.any fun m=>main.contains m && (dps ops m).contains i)=true) (hk0:Kle K0 K) (hl0:Lle Lc L) (hfree:((T.map Prod.fst).all fun i=>(lk K (sR ops i)).isNone)=true)
  (hmain:∀ f S a w,Stz w0 gs n ops main T D K L (f+1) S a w→∀ i,main.contains i=true→i∈Region.ready .any ops.toArray S.toArray→wpOp P ops.toArray Q i (wpAny P .any ops.toArray Q f (S.set i true).toArray) a w)
  (hfin:∀ f S a w,Stz w0 gs n ops main T D K L f S a w→(∀ i,i<ops.length→S[i]?=some true)→Q .normal a w):WT P w0 gs n ops Q main T D K L:=by
 have C:=lu.spec hc;have hfree:∀ i∈T.map Prod.fst,lk K (sR ops i)=none:=fun i hi=>by simpa using List.all_eq_true.1 hfree i hi
 intro f
 induction f with
 | zero =>
  intro S a w hs;have hr:Region.ready .any ops.toArray S.toArray=[]:=by
   rw[List.eq_nil_iff_forall_not_mem];intro i hi;have h1:=(vH hs.len hi).2.1;have:0<S.count false:=List.count_pos_iff.2 (List.mem_of_getElem? h1);have:=hs.cnt;omega
  exact⟨hr,hfin _ _ _ _ hs (sj hs.len C.ac hr)⟩
 | succ f ih =>
  intro S a w hs;refine⟨fun hr=>hfin _ _ _ _ hs (sj hs.len C.ac hr),fun i hi=>?_⟩;rw[List.setIfInBounds_toArray];cases hm:main.contains i with
  | true=>exact hmain f S a w hs i hm hi
  | false =>
   obtain⟨hil,hiS,hid⟩:=vH hs.len hi;have hits:i∈T.map Prod.fst:=by
    have:=C.one i hil;rw[hm] at this;cases h:(T.map Prod.fst).contains i with
    | true=>simpa using h
    | false=>exact absurd h.symm this
   obtain⟨v,hv⟩:=pG.2 hits
   rcases hT.at hv with hxi|⟨o,ho,hdo⟩
   ·exfalso;obtain⟨m,hmD,h2⟩:=List.any_eq_true.1 (List.all_eq_true.1 hex i (by simpa using hxi));rw[Bool.and_eq_true] at h2;have:=hs.cl m ((hs.mn m h2.1).2 (by simpa using hmD)) i (by simpa using h2.2);rw[hiS] at this;cases this
   obtain⟨hd1,hd2⟩:=C.dst i hits;have hod:o.dst=some (sR ops i)∧o.guard=none:=by
    unfold mG at hd1;unfold sR;rw[ho] at hd1 ⊢;obtain⟨od,_,_,_,_,og⟩:=o;cases od with
    | none=>simp at hd1
    | some d=>cases og with
     | none=>exact⟨rfl,rfl⟩
     | some g=>simp at hd1
   have hkn:Kn (tvs ops T (dps ops i)++K0) a:=je (ln fun j hj u hu=>hs.tl j u hu (hid j hj)) (hk0.kn hs.kn);have ho2:ops.toArray[i]?=some o:=by simpa [um] using ho
   unfold wpOp;simp only[ho2];have hw:Region.wanted o (yielded ops.toArray a.tmps)=true:=by unfold Region.wanted;rw[hod.2]
   rw[if_pos hw];left;refine cZ (fun a' w' hh=>?_) (hdo a w hkn (hl0.me hs.me).mr);obtain⟨rfl,hbe⟩:=hh;refine ih _ _ _ ⟨by rw[List.length_set];exact hs.len,rH hiS hs.cnt,fun m hkm=>?_,ace (by rw[hs.len];exact hil) hs.cl hid,by rw[put_defers];exact hs.df,by rw[yk];exact hs.sz,fun t u ht=>?_,fun j u hu hj=>?_,hs.me.below hbe⟩
   ·have hne:¬ i=m:=fun e=>by
     subst e;rw[hm] at hkm;cases hkm
    rw[List.getElem?_set_ne hne];exact hs.mn m hkm
   ·have hne:o.dst≠some t:=fun e=>by
     rw[hod.1] at e;cases e;rw[hfree i hits] at ht;cases ht
    rw[yS _ _ _ hne];exact hs.kn t u ht
   ·by_cases e:j=i
    ·subst e;rw[hv] at hu;cases hu;rw[hod.1];simp only[Act.put];have:=hs.sz;rw[Array.getElem?_setIfInBounds,if_pos rfl,if_pos Om]
    ·rw[List.getElem?_set_ne (fun h=>e h.symm)] at hj;have hjt:j∈T.map Prod.fst:=pG.1 ⟨u,hu⟩;have hne:o.dst≠some (sR ops j):=C.apart j hjt i o ho (fun h=>e h.symm);rw[yS _ _ _ hne];exact hs.tl j u hu hj
theorem WT.step (cs:LN) (hcs:ag1 ops main D cs=true) (hc:lu ops main (T.map Prod.fst) n=true) (hT:Tlv P w0 gs ops K0 Lc T ex T)
  (k:aaB (fun m=>∃ o,nth ops m=some o∧WO P w0 gs n ops (Qk (MT P w0 gs n ops Q main T o K (m::D)) Q) (tvs ops T (dps ops m)++K) L [o]) cs)
  (hk0:Kle K0 K:=by (repeat (first|exact Kle.nil|refine Kle.cons rfl rfl ?_))) (hl0:Lle Lc L:=by (repeat (first|exact Lle.nil|refine Lle.c ?_))) (hfree:((T.map Prod.fst).all fun i=>(lk K (sR ops i)).isNone)=true:=by rfl) (hex:(ex.all fun i=>D.any fun m=>main.contains m && (dps ops m).contains i)=true:=by rfl):WT P w0 gs n ops Q main T D K L:=by
 have C:=lu.spec hc;unfold ag1 at hcs;rw[Bool.and_eq_true] at hcs;obtain⟨hca,hcb⟩:=hcs;refine WT.loop hc hT hex hk0 hl0 hfree (fun f S a w hs i hi hr=>?_) (fun f S a w hs hall=>?_)
 ·obtain⟨hil,hiS,hid⟩:=vH hs.len hr;have hiD:D.contains i=false:=by
   cases h:D.contains i with
   | false=>rfl
   | true=>have:=(hs.mn i hi).2 h;rw[hiS] at this;cases this
  have him:i∈main:=by simpa using hi
  have hic:cs.contains i=true:=by
   have h1:=List.all_eq_true.1 hca i him;rw[hiD,Bool.false_or,Bool.or_eq_true] at h1
   rcases h1 with h1|h1
   ·exact h1
   ·exfalso;obtain⟨j,hj,h2⟩:=List.any_eq_true.1 h1;rw[Bool.and_eq_true] at h2;have h3:=(hs.mn j h2.1).1 (hid j hj);rw[h3] at h2;simp at h2
  obtain⟨o,ho,kk⟩:=k.mem hic;have ho2:ops.toArray[i]?=some o:=by simpa [um] using ho
  have hkn:Kn (tvs ops T (dps ops i)++K) a:=je (ln fun j hj u hu=>hs.tl j u hu (hid j hj)) hs.kn;have h1:=mq ho2 (lQ ho2 (kk a w hs.df hs.sz hkn hs.me));refine wpOp_mono (fun a' w' hh=>?_) h1;obtain⟨⟨g1,g2,K',L',g3,g4',g5,g7⟩,g6⟩:=hh;have g4:Kn (K'++K) a':=by
   intro t v ht;rw[bT] at ht;cases h:lk K' t with
   | some u=>rw[h] at ht;cases ht;exact g4' t v h
   | none =>
    rw[h] at ht;have ht:lk K t=some v:=ht;have hne:o.dst≠some t:=fun e=>by
     rcases g7 t e with ⟨v',hv'⟩|h2
     ·rw[h] at hv';cases hv'
     ·rw[h2] at ht;cases ht
    rw[g6 t hne];exact hs.kn t v ht
  refine g3 f (S.set i true) a' w' ⟨by rw[List.length_set];exact hs.len,rH hiS hs.cnt,fun q hq=>?_,ace (by rw[hs.len];exact hil) hs.cl hid,g1,g2,g4,fun j u hu hj=>?_,g5⟩
  ·rw[List.contains_cons]
   by_cases e:i=q
   ·subst e;rw[List.getElem?_set_self (by rw[hs.len];exact hil)];simp
   ·rw[List.getElem?_set_ne e,hs.mn q hq];have:(q == i)=false:=by simpa using fun h=>e h.symm
    rw[this,Bool.false_or]
  ·have hjt:j∈T.map Prod.fst:=pG.1 ⟨u,hu⟩;have hne:j≠i:=fun e=>by
    subst e;have:=C.one j hil;rw[hi] at this;exact this (by simpa using hjt)
   rw[List.getElem?_set_ne (fun h=>hne h.symm)] at hj;rw[g6 _ (C.apart j hjt i o ho (fun h=>hne h.symm))];exact hs.tl j u hu hj
 ·exfalso;obtain⟨m,hm,h1⟩:=List.any_eq_true.1 hcb;have h2:=(hs.mn m (by simpa using hm)).1 (hall m (C.len m hm));rw[h2] at h1;cases h1
def agT (ops:List Oper):Nat→Nat→List Nat
 | 0,_=>[]
 | k+1,m=>dps ops m++(dps ops m).flatMap (agT ops k)
theorem bk {S:List Bool} (hcl:∀ i,S[i]?=some true→∀ j∈dps ops i,S[j]?=some true):∀ (k m:Nat),S[m]?=some true→∀ i∈agT ops k m,S[i]?=some true
 | 0,_,_,i,h=>by cases h
 | k+1,m,hm,i,h=>by
  unfold agT at h
  rcases List.mem_append.1 h with h|h
  ·exact hcl m hm i h
  ·obtain⟨j,hj,hi⟩:=List.mem_flatMap.1 h;exact bk hcl k j (hcl m hm j hj) i hi
theorem WT.fin (ms:LN) (fuel:Nat) (hc:lu ops main (T.map Prod.fst) n=true) (hd:main.all (fun i=>D.contains i)=true) (hall:(T.map Prod.fst).all (fun i=>ms.any fun m=>main.contains m && (agT ops fuel m).contains i)=true)
  (k:WX w0 gs n .normal Q K L):WT P w0 gs n ops Q main T D K L:=by
 have C:=lu.spec hc;have key:∀ (f:Nat) (S:List Bool) (a:Act) (w:World),Stz w0 gs n ops main T D K L f S a w→wpAny P .any ops.toArray Q f S.toArray a w:=by
  intro f S a w hs;have hr:Region.ready .any ops.toArray S.toArray=[]:=by
   rw[List.eq_nil_iff_forall_not_mem];intro i hi;obtain⟨hil,hiS,hid⟩:=vH hs.len hi;cases hmi:main.contains i with
   | true =>
    have:=(hs.mn i hmi).2 (List.all_eq_true.1 hd i (by simpa using hmi));rw[hiS] at this;cases this
   | false =>
    have hits:i∈T.map Prod.fst:=by
     have:=C.one i hil;rw[hmi] at this;cases h:(T.map Prod.fst).contains i with
     | true=>simpa using h
     | false=>exact absurd h.symm this
    obtain⟨m,_,h2⟩:=List.any_eq_true.1 (List.all_eq_true.1 hall i hits);rw[Bool.and_eq_true] at h2;have hmS:=(hs.mn m h2.1).2 (List.all_eq_true.1 hd m (by simpa using h2.1));have:=bk hs.cl fuel m hmS i (by simpa using h2.2);rw[hiS] at this;cases this
  cases f with
  | zero=>exact⟨hr,k a w hs.df hs.sz hs.kn hs.me⟩
  | succ f=>exact⟨fun _=>k a w hs.df hs.sz hs.kn hs.me,fun i hi=>by rw[hr] at hi;cases hi⟩
 exact key
theorem WT.less {D' : List Nat} {K' : List (Nat × Value)} {L' : List Ent} (k:WT P w0 gs n ops Q main T D' K' L') (hD:main.all (fun m=>D'.contains m == D.contains m)=true) (hk:Kle K' K) (hl:Lle L' L):WT P w0 gs n ops Q main T D K L:=fun f S a w hs =>
 k f S a w ⟨hs.len,hs.cnt,fun m hm=>by
  have h1:=List.all_eq_true.1 hD m (by simpa using hm);have h2:D'.contains m=D.contains m:=by simpa using h1
  rw[h2];exact hs.mn m hm,hs.cl,hs.df,hs.sz,hk.kn hs.kn,hs.tl,hl.me hs.me⟩
theorem WX.wt {o:Oper} {D:LN} {Q' : Exit→Act→World→Prop} {K1:List (Nat × Value)} (K' : List (Nat × Value)) (k:WT P w0 gs n ops Q main T D (K'++K) L) (hk:Kle K' K1:=by (repeat (first|exact Kle.nil|refine Kle.cons rfl rfl ?_))) (hd:∀ t,o.dst=some t→(∃ v,lk K' t=some v)∨lk K t=none:=by (intro t ht;first|(cases ht;done)|(cases ht;first|exact .inl ⟨_,rfl⟩|exact .inr rfl))):WX w0 gs n .normal (Qk (MT P w0 gs n ops Q main T o K D) Q') K1 L:=fun _ _ h1 h2 h3 h4 =>
 ⟨h1,h2,K',L,k,hk.kn h3,h4,hd⟩
theorem WT.given (K0:List (Nat × Value)) (Lc:List Ent) (hc:lu ops main (T.map Prod.fst) n=true) (hT:Tlv P w0 gs ops K0 Lc T [] T) (k:lu ops main (T.map Prod.fst) n=true→Tlv P w0 gs ops K0 Lc T [] T→WT P w0 gs n ops Q main T [] K L):WT P w0 gs n ops Q main T [] K L:=k hc hT
theorem WC.mainA {id:Nat} {l:List Oper} [Mix P] (main:LN) (T:List (Nat × Value)) (hml:main.all (fun i=>decide (i<l.length))=true) (k:∀ A:List Nat→List (Nat × Value)→List Ent→Prop,(∀ D K L,A D K L↔WT P w0 gs n l Q main T D K L)→WT P w0 gs n l Q main T [] K L):WC P w0 gs n (.region id l.toArray true) Q K L:=by
 refine WC.all (fun a w h1 h2 h3 h4=>k _ (fun _ _ _=>Iff.rfl) _ _ a w ⟨by simp,by rw[List.count_replicate];split<;>omega,fun m hq=>?_,fun i hi=>?_,h1,h2,h3,fun i v _ hi=>?_,h4⟩)
 ·have hm:m<l.length:=by
   have:=List.all_eq_true.1 hml m (by simpa using hq);simpa using this
  rw[List.getElem?_replicate,if_pos hm];simp
 ·rw[List.getElem?_replicate] at hi
  split at hi<;>simp at hi
 ·rw[List.getElem?_replicate] at hi
  split at hi<;>simp at hi
theorem WT.go {o:Oper} {D D' : List Nat} {Q' : Exit→Act→World→Prop} {K1 K2:List (Nat × Value)} {L2:List Ent} {A:List Nat→List (Nat × Value)→List Ent→Prop} (K' : List (Nat × Value)) (hA:∀ D K L,A D K L↔WT P w0 gs n ops Q main T D K L) (h:A D' K2 L2)
  (hk1:Kle K' K1:=by (repeat (first|exact Kle.nil|refine Kle.cons rfl rfl ?_))) (hk:Kle K2 (K'++K):=by (repeat (first|exact Kle.nil|refine Kle.cons rfl rfl ?_))) (hl:Lle L2 L:=by (repeat (first|exact Lle.nil|exact Lle.same|refine Lle.c ?_)))
  (hD:main.all (fun m=>D'.contains m == D.contains m)=true:=by decide) (hd:∀ t,o.dst=some t→(∃ v,lk K' t=some v)∨lk K t=none:=by (intro t ht;first|(cases ht;done)|(cases ht;first|exact .inl ⟨_,rfl⟩|exact .inr rfl))) :
  WO P w0 gs n ops (Qk (MT P w0 gs n ops Q main T o K D) Q') K1 L []:=WO.nil (WX.wt K' (WT.less ((hA _ _ _).1 h) hD hk hl) hk1 hd)
theorem Tlv.a {i:Nat} {v:Value} {r:List (Nat × Value)} {o:Oper} (hr:Tlv P w0 gs ops K0 Lc T ex r) (ho:nth ops i=some o:=by rfl) (h:Qux P w0 gs (tvs ops T (dps ops i)++K0) Lc o v:=by (refine Qux.does ?_;first|exact pg|exact zw|exact zx|exact yv|exact vw|exact j9|exact mp|exact uy|exact tK|exact u6)):Tlv P w0 gs ops K0 Lc T ex ((i,v)::r):=.cons ho h hr
theorem Tlv.auto {i:Nat} {v:Value} {r:List (Nat × Value)} {o:Oper} (hr:Tlv P w0 gs ops K0 Lc T ex r) (ho:nth ops i=some o:=by rfl) (h:Does P w0 gs (tvs ops T (dps ops i)++K0) Lc o.op o.type v:=by first|exact pg|exact zw|exact zx|exact yv|exact vw|exact mp|exact uy|exact tK):Tlv P w0 gs ops K0 Lc T ex ((i,v)::r):=.cons ho (Qux.does h) hr
theorem Tlv.d {i:Nat} {v:Value} {r:List (Nat × Value)} {o:Oper} (ho:nth ops i=some o) (h:Does P w0 gs (tvs ops T (dps ops i)++K0) Lc o.op o.type v) (hr:Tlv P w0 gs ops K0 Lc T ex r):Tlv P w0 gs ops K0 Lc T ex ((i,v)::r):=.cons ho (Qux.does h) hr
theorem WT.one {m:Nat} {o:Oper} (ho:nth ops m=some o) (hc:lu ops main (T.map Prod.fst) n=true) (hT:Tlv P w0 gs ops K0 Lc T ex T)
  (k:WO P w0 gs n ops (Qk (MT P w0 gs n ops Q main T o K (m::D)) Q) (tvs ops T (dps ops m)++K) L [o])
  (hk0:Kle K0 K:=by (repeat (first|exact Kle.nil|refine Kle.cons rfl rfl ?_))) (hl0:Lle Lc L:=by (repeat (first|exact Lle.nil|refine Lle.c ?_))) (hfree:((T.map Prod.fst).all fun i=>(lk K (sR ops i)).isNone)=true:=by rfl) (hex:(ex.all fun i=>D.any fun m=>main.contains m && (dps ops m).contains i)=true:=by rfl) (hcs:ag1 ops main D [m]=true:=by decide):WT P w0 gs n ops Q main T D K L :=
 WT.step [m] hcs hc hT ⟨⟨o,ho,k⟩,trivial⟩ hk0 hl0 hfree hex
theorem WT.with (Lc:List Ent) (hc:lu ops main (T.map Prod.fst) n=true) (hT:Tlv P w0 gs ops K Lc T [] T) (k:lu ops main (T.map Prod.fst) n=true→Tlv P w0 gs ops K Lc T [] T→WT P w0 gs n ops Q main T [] K L):WT P w0 gs n ops Q main T [] K L:=k hc hT
theorem WC.mainV {id:Nat} {l:List Oper} [Mix P] (main:LN) (T:List (Nat × Value)) (hml:main.all (fun i=>decide (i<l.length))=true) (k:WT P w0 gs n l Q main T [] K L):WC P w0 gs n (.region id l.toArray true) Q K L:=WC.mainA main T hml (fun _ _=>k)
theorem Tlv.call {f:FuncId} [Cal P f] {i:Nat} {v:Value} {r:List (Nat × Value)} {vs:LV} {R:World→Prop} {xs:Array Operand} {ats:Array TypeId} {d:Option Tmp} {ty:TypeId} {pos:String} {after:Array Edge} {gd:Option (Nat × Bool)} (hc:Fn P f vs R (Is v)) (hR:∀ w,Mr w0 gs Lc w→R w)
  (hr:Tlv P w0 gs ops K0 Lc T ex r) (ho:nth ops i=some ⟨d,.call { callee:=.value (.func f),args:=xs,argTypes:=ats },ty,pos,after,gd⟩:=by rfl) (ha:evs (tvs ops T (dps ops i)++K0) xs.toList=some vs:=by rfl):Tlv P w0 gs ops K0 Lc T ex ((i,v)::r) :=
 .cons ho (Qux.call (fs:=[]) (cs:=[]) hc rfl ha Sm hR) hr
end
section
variable {P:Program} {w0:World} {gs:LN} {n:Nat} {ops:List Oper} {Q:Exit→Act→World→Prop} {K:List (Nat × Value)} {L:List Ent} {rest:List Oper}
theorem vG {x:Operand} {t ty:TypeId} {v:Value} (hc:P.concrete t=true) (hx:ev K x=some v):Does P w0 gs K L (.makeInterface t x) ty (.iface t v):=by
 intro a w hk _ o ho _;simp only[execOp,ho,hk.eval hx,Sem.run_bind,run_makeInterface _ _ _ hc,Result.andThen_ok,Sem.run_pure]
theorem WO.panics {x:Operand} {t ty:TypeId} {pos:String} {after:Array Edge} {gd:Option (Nat × Bool)} {v:Value} (hx:ev K x=some (.iface t v)) (k:WX w0 gs n (.panic [{ v:=.iface t v,recovered:=false }]) Q K L) (hw:wk ops K gd=some true:=by rfl) :
  WO P w0 gs n ops Q K L (⟨none,.panic x,ty,pos,after,gd⟩::rest):=by
 intro a w hdf hsz hk hme;refine wpList_step fun F hF=>?_;rw[if_pos (yF (o:=⟨none,.panic x,ty,pos,after,gd⟩) hk hw)];unfold Oper.wp;have hr:(execOp a.eval ⟨none,.panic x,ty,pos,after,gd⟩).run P w=.halt (.panic (.iface t v)) w:=by
  have hp:(Instr.panic (.iface t v)).run P w=.halt (.panic (.iface t v)) w:=rfl;simp only[execOp,hk.eval hx,Sem.run_bind,hp];rfl
 rw[hr];exact k a w hdf hsz hk hme
theorem WOI.yieldP {m d l:Nat} {x:Operand} {xs:Array Operand} {ats:Array TypeId} {ty:TypeId} {pos:String} {after:Array Edge} {gd:Option (Nat × Bool)} {vs:LV} {R:World→Ending→World→Prop}
  (hx:ev K x=some (.func (.yield l) #[] #[])) (ha:evs K xs.toList=some vs)
  (hy:∀ w,Me w0 gs L w→YieldAt (fw none) (m - 1) P l vs.toArray w (R w))
  (k:∀ w e w',Me w0 gs L w→R w e w'→(∃ b,e=.returned (.bool b)∧WOI m P w' [] n ops Q ((d,.bool b)::K) [] rest)∨(∃ ch,e=.panicked ch∧∀ a:Act,a.defers=[]→Q (.panic ch) a w'))
  (hd:Nat.blt d n=true:=by rfl) (hw:wk ops K gd=some true:=by rfl):WOI m P w0 gs n ops Q K L (⟨some d,.call { callee:=.value x,args:=xs,argTypes:=ats },ty,pos,after,gd⟩::rest):=by
 intro a w h1 h2 h3 h4;have hd' : d<n:=by simpa [Nat.blt_eq] using hd
 unfold wpListIn;rw[if_pos (yF (o:=⟨some d,.call { callee:=.value x,args:=xs,argTypes:=ats },ty,pos,after,gd⟩) h3 hw)];refine⟨fun _ _=>trivial,?_⟩;rw[Oper.semAt_eq _ _ _ (by intro c hc;cases hc)];obtain⟨fn,tmps,assign,body,h5,h6⟩:=hy w h4;have hrun:(execOp a.eval ⟨some d,.call { callee:=.value x,args:=xs,argTypes:=ats },ty,pos,after,gd⟩).run P w=.ok (.round l fn tmps assign body) w:=by
  have e1:=h3.eval hx;have e2:xs.map a.eval=vs.toArray:=by have h:=h3.evals ha;apply Array.ext';simpa using h
  simp only[execOp,resolve,e1,e2,Deferred.ofValue,Sem.run_bind,Sem.run_pure,Result.andThen_ok,invoke];simpa using h5
 rw[hrun];refine⟨fun h=>by simp[fw] at h,h6.mono ?_⟩;intro e w' hR
 rcases k w e w' h4 hR with ⟨b,rfl,hk⟩|⟨ch,rfl,hk⟩
 ·exact hk (a.put (some d) (.bool b)) w' (by rw[put_defers];exact h1) (by rw[yk];exact h2) (h3.put Om _) (Me.refl w' [])
 ·exact hk a h1
end
theorem WC.app {P:Program} {w0:World} {gs:LN} {n:Nat} {c:Code} {Q:Exit→Act→World→Prop} {K:List (Nat × Value)} {L:List Ent} (h:WC P w0 gs n c Q K L) {a:Act} {w:World} (h1:a.defers=[]) (h2:a.tmps.size=n) (h3:Kn K a) (h4:Me w0 gs L w):c.wp P Q a w:=h a w h1 h2 h3 h4
theorem WX.un {w0:World} {gs:LN} {n:Nat} {e:Exit} {Q:Exit→Act→World→Prop} {K:List (Nat × Value)} {L:List Ent} (k:∀ a w,a.defers=[]→a.tmps.size=n→Kn K a→Me w0 gs L w→Q e a w):WX w0 gs n e Q K L:=k
theorem WI.app {ro:Option Nat} {m:Nat} {P:Program} {w0:World} {gs:LN} {n:Nat} {c:Code} {Q:Exit→Act→World→Prop} {K:List (Nat × Value)} {L:List Ent} (h:WI ro m P w0 gs n c Q K L) {a:Act} {w:World} (h1:a.defers=[]) (h2:a.tmps.size=n) (h3:Kn K a) (h4:Me w0 gs L w):c.wpIn (fw ro) m P Q a w:=h a w h1 h2 h3 h4
theorem qP {P:Program} {f:FuncId} {fn:Func} {c:Code} {args:LV} {u u' : FrameMode} {w:World} {R:Ending→FrameMode→World→Prop} {n id d:Nat} {ty:TypeId} {pos:String} {after:Array Edge} {v:Value}
  (hf:P.funcs[f]?=some fn) (hb:fn.body=some (.seq (.region id #[⟨some d,.call { callee:=.builtin .recover,args:=#[],argTypes:=#[] },ty,pos,after,none⟩] false) c)) (hn:fn.ntmps=n) (hle:Nat.ble args.length n=true) (hd:Nat.blt d n=true)
  (hu:∀ (c0:Frame) (cs:List Frame),c0.mode=u→(recoverD (c0::cs)=some (v,{ c0 with mode:=u' }::cs))∨(recoverD (c0::cs)=none∧v=.nilIface∧u'=u))
  {gs:LN} {L:List Ent} (hme:Me w gs L w) (k:∀ (c0:Frame) (cs:List Frame),WC P w gs n c (fun e a w=>bodyPostS P fn c0 cs R e a ({ c0 with mode:=u' }::cs) w) ((d,v)::kin args 0) L):CallsD P f args.toArray u w R:=by
 subst hn;have hle' : args.length≤fn.ntmps:=by simpa using hle
 have hd' : d<fn.ntmps:=by simpa [Nat.blt_eq] using hd
 refine callsD_of_wpS hf hb fun c0 cs hm=>?_;obtain⟨a,ha⟩ : ∃ a:Act,a = { tmps:=args.toArray++Array.replicate (fn.ntmps - args.toArray.size) undef,defers:=[] }:=⟨_,rfl⟩;have a1:a.defers=[]:=by rw[ha]
 have a2:a.tmps.size=fn.ntmps:=by rw[ha];simp;omega
 have a3:Kn (kin args 0) a:=fun t x hv=>by
  have:=pv hle' t x hv;rw[ha];simpa using this
 rw[← ha];have hfin:=wpS_of_wp (k c0 cs (a.put (some d) v) w (by rw[put_defers];exact a1) (by rw[yk];exact a2) (a3.put Om v) hme);refine wpS_seq (wpS_region ?_);have hr:(execOp a.eval ⟨some d,.call { callee:=.builtin .recover,args:=#[],argTypes:=#[] },ty,pos,after,none⟩).run P w=.ok .recover w:=rfl;show wpOpsS P #[_] _ [0] a (c0::cs) w;unfold wpOpsS;have h0:(#[(⟨some d,.call { callee:=.builtin .recover,args:=#[],argTypes:=#[] },ty,pos,after,none⟩ : Oper)])[0]?=some ⟨some d,.call { callee:=.builtin .recover,args:=#[],argTypes:=#[] },ty,pos,after,none⟩:=rfl;simp only[h0];rw[if_pos (show Region.wanted (⟨some d,.call { callee:=.builtin .recover,args:=#[],argTypes:=#[] },ty,pos,after,none⟩ : Oper) _=true from rfl),hr]
 rcases hu c0 cs hm with h|⟨h,rfl,rfl⟩
 ·simp only[h];exact hfin
 ·simp only[h];have e:({ c0 with mode:=u' }:Frame)=c0:=by cases c0;cases hm;rfl
  rw[e] at hfin;exact hfin
theorem Me.tail {w0 w:World} {gs:LN} {e:Ent} {L:List Ent} (h:Me w0 gs (e::L) w):Me w0 gs L w:=⟨h.mod,fun x hx=>h.ok x (List.mem_cons_of_mem _ hx),fun x hx=>h.mine x (List.mem_cons_of_mem _ hx),(List.nodup_cons.1 h.nodup).2⟩
section
variable {P:Program} {w0:World} {gs:LN} {K:List (Nat × Value)} {L:List Ent}
theorem mO {x y:Operand} {t yt ty u:TypeId} {v:Value} (hx:ev K x=some (.iface u v)) (hy:ev K y=some .nilIface) (hr:∀ w,(binOp .eql t (.iface u v) .nilIface).run P w=.ok (.bool false) w) (hg:∀ w,(eqGuard .eql t x y (.iface u v) .nilIface).run P w=.ok () w):Does P w0 gs K L (.binOp .eql t x y yt) ty (.bool false):=by
 intro a w hk _ o ho _;simp only[execOp,ho,hk.eval hx,hk.eval hy,Sem.run_bind,hg,Result.andThen_ok,hr,Sem.run_pure]
theorem ml {x y:Operand} {t yt ty:TypeId} (hx:ev K x=some .nilIface) (hy:ev K y=some .nilIface) (hr:∀ w,(binOp .eql t .nilIface .nilIface).run P w=.ok (.bool true) w) (hg:∀ w,(eqGuard .eql t x y .nilIface .nilIface).run P w=.ok () w):Does P w0 gs K L (.binOp .eql t x y yt) ty (.bool true):=by
 intro a w hk _ o ho _;simp only[execOp,ho,hk.eval hx,hk.eval hy,Sem.run_bind,hg,Result.andThen_ok,hr,Sem.run_pure]
theorem kT {x:Operand} {xt t ty:TypeId} {v r:Value} {b:Bool} (hx:ev K x=some v) (hr:∀ w,(Instr.typeAssert v xt t b).run P w=.ok r w):Does P w0 gs K L (.typeAssert x xt t b) ty r:=by
 intro a w hk _ o ho _;simp only[execOp,ho,hk.eval hx,Sem.run_bind,hr,Result.andThen_ok,Sem.run_pure]
theorem WO.defers {n:Nat} {ops:List Oper} {Q:Exit→Act→World→Prop} {f:FuncId} {x:Operand} {cs:LV} {ats:Array TypeId} {ty:TypeId} {pos:String} {after:Array Edge} (hx:ev K x=some (.func (.func f) #[] cs.toArray))
  (k:∀ a w,a.defers=[{ target:=.fn (.func f) cs.toArray,args:=#[] }]→a.tmps.size=n→Kn K a→Me w0 gs L w→Q .normal a w):WO P w0 gs n ops Q K L [⟨none,.defer { callee:=.value x,args:=#[],argTypes:=ats },ty,pos,after,none⟩]:=by
 intro a w hdf hsz hk hme;refine wpList_step fun F hF=>?_;rw[if_pos (show Region.wanted (⟨none,.defer { callee:=.value x,args:=#[],argTypes:=ats },ty,pos,after,none⟩ : Oper) _=true from rfl)];have hr:(execOp a.eval ⟨none,.defer { callee:=.value x,args:=#[],argTypes:=ats },ty,pos,after,none⟩).run P w=.ok (.defer { target:=.fn (.func f) cs.toArray,args:=#[] }) w:=by
  have e:=hk.eval hx;simp[execOp,resolve,e,Deferred.ofValue,Sem.run_bind,Sem.run_pure,Result.andThen]
 unfold Oper.wp;rw[hr];exact hF _ _ (k _ w (by simp[Act.put,hdf]) hsz (fun t v h=>hk t v h) hme)
end
end Sx
end
section
open Go Go.RowKit Go.BigFrame
namespace Sx
open Kp
section
variable {u:FuncId} {P:Program} {w0:World} {gs:LN} {n:Nat} {Q:Exit→Act→World→Prop} {K:List (Nat × Value)} {L:List Ent} {ds:List Deferred} {a:Act} {w:World}
def Qz (u:FuncId) (P:Program) (c:Code) (Q:Exit→Act→World→Prop) (ds:List Deferred):Exit→Act→World→Prop:=fun e a w=>Exit.then (WU u P c Q) Q e (dfA ds a) w
theorem WU.seqR {id:Nat} {l:List Oper} {c:Code} (hd:a.defers=ds) (hs:a.tmps.size=n) (hk:Kn K a) (hm:Me w0 gs L w) (k:WO P w0 gs n l (Qz u P c Q ds) K L l):WU u P (.seq (.region id l.toArray false) c) Q a w :=
 WU.seq (WU.reg hd hs hk hm k)
theorem WU.seqD {id:Nat} {l hd tl:List Oper} {c:Code} [Mix P] (h:Nat) (hdf:a.defers=ds) (hs:a.tmps.size=n) (hk:Kn K a) (hm:Me w0 gs L w) (k:DQ P w0 gs n [] (Qz u P c Q ds) l L tl 0 hd (fun _=>True) (fun _=>K) (fun _=>[]))
  (h1:l.take h=hd:=by (simp only[List.take_succ_cons,List.take_zero]<;>rfl)) (h2:l.drop h=tl:=by (simp only[List.drop_succ_cons,List.drop_zero]<;>rfl)) (hB:yL l [] h=true:=by decide +kernel):WU u P (.seq (.region id l.toArray true) c) Q a w :=
 WU.seq (WU.draw h hdf hs hk hm k h1 h2 hB)
theorem WX.z {c:Code} (k:∀ a w,a.defers=ds→a.tmps.size=n→Kn K a→Me w0 gs L w→WU u P c Q a w):WX w0 gs n .normal (Qz u P c Q ds) K L:=fun a w h1 h2 h3 h4=>k (dfA ds a) w (by simp[dfA,h1]) h2 h3 h4
theorem WI.draw {ro:Option Nat} {m id:Nat} {l hd tl:List Oper} [Mix P] (h:Nat) (hQ:¬ LetsOut Q) (k:DQ P w0 gs n [] Q l L tl 0 hd (fun _=>True) (fun _=>K) (fun _=>[]))
  (h1:l.take h=hd:=by (simp only[List.take_succ_cons,List.take_zero]<;>rfl)) (h2:l.drop h=tl:=by (simp only[List.drop_succ_cons,List.drop_zero]<;>rfl)) (hB:yL l [] h=true:=by decide +kernel) (hnd:tq l=true:=by rfl):WI ro m P w0 gs n (.region id l.toArray true) Q K L:=by
 intro a w g1 g2 g3 g4;subst h1;subst h2;obtain⟨ks,k1,k2,k3⟩:=k;refine wpIn_region_any Mix.out (pe hQ (rB hnd) _ _ _ _ ?_);exact lT [] h ks hB (.inl rfl) (fun i=>k1 i (Nat.zero_le _)) (fun i s=>k2 i s (Nat.zero_le _)) (fun s=>k3 s a w (fun _ _=>True) [] trivial g1 g2 g3 g4 .nil Sm (fun _ _ _=>trivial) Sm Sm)
theorem WI.pan {ro:Option Nat} {m id p:Nat} {l:List Oper} {op:Oper} {T:List (Nat × Value)} [Mix P] (hQ:¬ LetsOut Q) (hc:aho l p (T.map Prod.fst) n=true) (hT:Tlq P w0 gs l K L T T) (hfree:((T.map Prod.fst).all fun i=>(lk K (sR l i)).isNone)=true) (hop:nth l p=some op)
  (hp:WO P w0 gs n l (Qk (fun _ _=>False) Q) (tvs l T (dps l p)++K) L [op]) (hnd:tq l=true:=by rfl):WI ro m P w0 gs n (.region id l.toArray true) Q K L:=by
 intro a w g1 g2 g3 g4;refine wpIn_region_any Mix.out (pe hQ (rB hnd) _ _ _ _ ?_);have:=ac3 hc hT hfree hop hp l.length (List.replicate l.length false) a { w with drawn:=w.drawn+1 } Sm Sm (fun i _ h=>by
  rw[List.getElem?_replicate] at h
  split at h<;>cases h) g1 g2 g3 (fun i v _ h=>by
  rw[List.getElem?_replicate] at h
  split at h<;>cases h) g4.drawn
 simpa using this
end
theorem Me.ownG {w0:World} {gs:LN} {L:List Ent} {A B:World} {row:Option Nat} {n:Nat} (h:Me w0 gs L A) (hn:w0.heap.size≤n) (hg:A.grownBy B row) (hr:∀ r,row=some r→n≤r∧∃ o:Obj,A.heap[r]?=some o∧o.isCells=false)
  (hk:(L.all fun e=>!e.k.map)=true:=by rfl):Me w0 gs L B:=h.ownM hn hg hr (fun e he hm=>by
 have:=List.all_eq_true.1 hk e he;rw[hm] at this;cases this)
theorem Marks.apart {w:World} {ds:List Deferred} {l:LN} (h:Marks w ds l) {e:Ent} (he:e.ok w):e.g ∉ l:=by
 induction h with
 | nil=>simp
 | cons h1 _ _ ih =>
  intro hm
  rcases List.mem_cons.1 hm with h2|h2
  ·have he:okK e.k.map e.g e.t e.cs w:=he;rw[h2] at he;generalize e.k.map=b at he;cases b with
   | false=>obtain⟨t,fr,h3,_⟩:=he;rw[h1] at h3;cases h3
   | true=>obtain⟨t,fr,h3,_⟩:=he;rw[h1] at h3;cases h3
  ·exact ih h2
theorem Me.marks {w0:World} {gs:LN} {L:List Ent} {W W' : World} {l:LN} (h:Me w0 gs L W) (hl:∀ D∈l,w0.heap.size≤D) (hL:∀ e∈L,e.g ∉ l) (h1:∀ k,k ∉ l→W'.heap[k]?=W.heap[k]?) (h2:W'.heap.size=W.heap.size) (h3:W'.os=W.os) (h4:W'.tape=W.tape) (h5:W'.output=W.output):Me w0 gs L W' :=
 ⟨⟨h3.trans h.mod.os,h4.trans h.mod.tape,h5.trans h.mod.output,by rw[h2];exact h.mod.size,fun k hk hk2=>(h1 k (fun hm=>by have:=hl k hm;omega)).trans (h.mod.block k hk hk2)⟩,fun e he=>(h.ok e he).keep (h1 e.g (hL e he)),h.mine,h.nodup⟩
section
variable {P:Program} {w0:World} {gs:LN} {n:Nat} {Q:Exit→Act→World→Prop} {K:List (Nat × Value)} {L:List Ent}
theorem WI.mainA {ro:Option Nat} {m id:Nat} {l:List Oper} [Mix P] (hQ:¬ LetsOut Q) (main:LN) (T:List (Nat × Value)) (hml:main.all (fun i=>decide (i<l.length))=true) (k:∀ A:List Nat→List (Nat × Value)→List Ent→Prop,(∀ D K L,A D K L↔WT P w0 gs n l Q main T D K L)→WT P w0 gs n l Q main T [] K L) (hnd:tq l=true:=by rfl):WI ro m P w0 gs n (.region id l.toArray true) Q K L:=by
 intro a w h1 h2 h3 h4;refine wpIn_region_any Mix.out (pe hQ (rB hnd) _ _ _ _ ?_);have:=k _ (fun _ _ _=>Iff.rfl) l.length (List.replicate l.length false) a { w with drawn:=w.drawn+1 } ⟨by simp,by simp,fun m hq=>?_,fun i hi=>?_,h1,h2,h3,fun i v _ hi=>?_,h4.drawn⟩
 ·simpa using this
 ·have hm:m<l.length:=by
   have:=List.all_eq_true.1 hml m (by simpa using hq);simpa using this
  rw[List.getElem?_replicate,if_pos hm];simp
 ·rw[List.getElem?_replicate] at hi
  split at hi<;>simp at hi
 ·rw[List.getElem?_replicate] at hi
  split at hi<;>simp at hi
end
end Sx
end
section
open Go Go.RowKit Go.BigFrame
namespace Sx
def dA (j:Nat) (b:Bool) (o:Oper):Oper:=match o.guard with
 | none=>o
 | some (k,b')=>if k=j then (if b'=b then { o with guard:=none } else { o with op:=.move (.const undef),guard:=none }) else o
theorem iM (j:Nat) (b:Bool) (o:Oper):(dA j b o).after=o.after:=by
 obtain⟨d,op,ty,pos,af,gd⟩:=o;cases gd with
 | none=>rfl
 | some g =>
  unfold dA;dsimp only;split
  ·split<;>rfl
  ·rfl
theorem iw (j:Nat) (b:Bool) (o:Oper):(dA j b o).dst=o.dst:=by
 obtain⟨d,op,ty,pos,af,gd⟩:=o;cases gd with
 | none=>rfl
 | some g =>
  unfold dA;dsimp only;split
  ·split<;>rfl
  ·rfl
theorem qK (j:Nat) (b:Bool) (ops:List Oper) (S:Array Bool):Region.ready .any (ops.map (dA j b)).toArray S=Region.ready .any ops.toArray S:=by
 unfold Region.ready;simp only[List.size_toArray,List.length_map,List.getElem?_toArray,List.getElem?_map];refine List.filter_congr fun i _=>?_;cases h:ops[i]? with
 | none=>rfl
 | some o=>simp only[Option.map_some,iM]
theorem acO {P:Program} {ops:List Oper} {Q:Exit→Act→World→Prop} {i j dj:Nat} {b:Bool} {k:Act→World→Prop} {a:Act} {w:World} {oj:Oper} (hoj:ops[j]?=some oj) (hdj:oj.dst=some dj) (ha:a.tmps[dj]?=some (.bool b))
  (h:wpOp P (ops.map (dA j b)).toArray Q i k a w):wpOp P ops.toArray Q i k a w:=by
 have hy:yielded ops.toArray a.tmps j=some b:=by
  unfold yielded;simp only[List.getElem?_toArray,hoj,Option.bind_some,hdj,ha]
 have hy' : yielded (ops.map (dA j b)).toArray a.tmps=yielded ops.toArray a.tmps:=by
  funext m;unfold yielded;simp only[List.getElem?_toArray,List.getElem?_map];cases ops[m]? with
  | none=>rfl
  | some o=>simp only[Option.map_some,Option.bind_some,iw]
 unfold wpOp at h ⊢;rw[hy'] at h;simp only[List.getElem?_toArray,List.getElem?_map] at h ⊢;cases ho:ops[i]? with
 | none=>rw[ho] at h;exact h
 | some o =>
  rw[ho] at h;simp only[Option.map_some] at h ⊢;obtain⟨d,op,ty,pos,after,gd⟩:=o;cases gd with
  | none=>exact h
  | some g =>
   obtain⟨m,b'⟩:=g;unfold dA at h
   by_cases hm:m=j
   ·subst hm
    by_cases hb:b'=b
    ·subst hb;simp only[if_true] at h;simp only[Region.wanted,hy,beq_self_eq_true,if_true] at h ⊢;exact h
    ·simp only[if_true,if_neg hb] at h;have hne:(some b == some b')=false:=by simpa using fun e=>hb e.symm
     simp only[Region.wanted,hy,hne,if_true] at h ⊢
     rcases h with h|h
     ·exact h
     ·exact absurd h.1 (fun hh=>by
      have h0:=hh.1;simp only[execOp,Sem.run_pure] at h0;have e:∀ x:Next,((pure x:Sem Next).runT P w #[]).2=#[]:=fun _=>rfl;exact absurd h0 (by first|(rw[e];simp)|simp[Sem.events]|(intro h;cases h)))
   ·simp only[if_neg hm] at h;exact h
section
variable {P:Program} {w0:World} {gs:LN} {n:Nat} {ops:List Oper} {Q:Exit→Act→World→Prop} {main:LN} {T K:List (Nat × Value)} {L:List Ent} {D:LN}
theorem WA.strip {S:List Bool} {f:Nat} (j:Nat) (b:Bool) {dj:Nat} {oj:Oper} (hoj:ops[j]?=some oj) (hdj:oj.dst=some dj) (hap:((List.range ops.length).all fun i=>decide (i=j) || ((ops[i]?).map fun o=>decide (o.dst≠some dj)).getD true)=true) (hl:S.length=ops.length) (hS:S[j]?=some true) (hK:lk K dj=some (.bool b))
  (k:WA P w0 gs n (ops.map (dA j b)) Q K L S f):WA P w0 gs n ops Q K L S f:=by
 have key:∀ (f:Nat) (S:List Bool) (a:Act) (w:World),S.length=ops.length→S[j]?=some true→a.tmps[dj]?=some (.bool b)→wpAny P .any (ops.map (dA j b)).toArray Q f S.toArray a w→wpAny P .any ops.toArray Q f S.toArray a w:=by
  intro f
  induction f with
  | zero=>intro S a w _ _ _ h;unfold wpAny at h ⊢;rw[qK] at h;exact h
  | succ f ih =>
   intro S a w hl hS ha h;unfold wpAny at h ⊢;rw[qK] at h;refine⟨h.1,fun i hi=>?_⟩;obtain⟨hil,hiS,_⟩:=vH hl hi;have hij:i≠j:=fun e=>by subst e;rw[hS] at hiS;cases hiS
   have h1:=h.2 i hi;obtain⟨o,ho⟩ : ∃ o,ops[i]?=some o:=⟨_,List.getElem?_eq_getElem hil⟩;have hod:o.dst≠some dj:=by
    have:=List.all_eq_true.1 hap i (List.mem_range.2 hil);rw[ho] at this;simpa [hij] using this
   have h2:=mq (o:=dA j b o) (by simp[ho]) h1;refine acO hoj hdj ha (wpOp_mono (fun a' w' hh=>?_) h2);rw[List.setIfInBounds_toArray] at hh ⊢;exact ih (S.set i true) a' w' (by rw[List.length_set];exact hl) (by rw[List.getElem?_set_ne hij];exact hS) (by rw[hh.2 dj (by rw[iw];exact hod)];exact ha) hh.1
 exact fun a w h1 h2 h3 h4=>key f S a w hl hS (h3 dj _ hK) (k a w h1 h2 h3 h4)
theorem WT.wa {S:List Bool} {f:Nat} (k:WT P w0 gs n ops Q main T D K L) (hl:S.length=ops.length) (hf:S.count false≤f) (hD:(main.all fun m=>decide (S[m]?=some true) == D.contains m)=true)
  (hcl:((List.range ops.length).all fun i=>decide (S[i]?≠some true) || (dps ops i).all fun j=>decide (S[j]?=some true))=true) (hT:(T.all fun x=>decide (S[x.1]?≠some true))=true):WA P w0 gs n ops Q K L S f:=fun a w h1 h2 h3 h4 =>
 k f S a w ⟨hl,hf,fun m hm=>by
  have:=List.all_eq_true.1 hD m (by simpa using hm);rw[beq_iff_eq] at this;rw[← this];simp,fun i hi j hj=>by
  have hil:i<ops.length:=by
   rw[← hl];exact (List.getElem?_eq_some_iff.1 hi).1
  have:=List.all_eq_true.1 hcl i (List.mem_range.2 hil);simp only[hi,ne_eq,not_true_eq_false,decide_false,Bool.false_or] at this;simpa using List.all_eq_true.1 this j hj,h1,h2,h3,fun i v hv hi=>by
  obtain⟨x,hx,rfl⟩:=List.mem_map.1 (pG.1 ⟨v,hv⟩);have:=List.all_eq_true.1 hT _ hx;simp[hi] at this,h4⟩
end
section
variable {P:Program}
theorem Fn.enterD {n:Nat} {f:FuncId} {fn:Func} {c:Code} {args:LV} {R:World→Prop} {post:Value→List Ent→Prop} (hf:P.funcs[f]?=some fn) (hb:fn.body=some c) (hn:fn.ntmps=n) (hle:Nat.ble args.length n=true)
  (k:∀ w,R w→WC P w [] n c (bodyPostD P fn (uw w post)) (kin args 0) []):Fn P f args R post:=by
 intro w hw;refine calls_of_wp_defers hf hb ?_;have hle' : args.length≤n:=by simpa using hle
 refine k w hw _ w rfl (by simp[hn];omega) (fun t v hv=>?_) (Me.refl w []);obtain⟨j,h1,h2⟩:=v6 args 0 t v hv;subst h1;have hj:j<args.length:=by
  rcases Nat.lt_or_ge j args.length with h|h
  ·exact h
  ·rw[List.getElem?_eq_none h] at h2;cases h2
 simp only[Nat.zero_add];rw[Array.getElem?_append_left (by simpa using hj)];simpa using h2
theorem m6 {n:Nat} {f:FuncId} {fn:Func} {c:Code} {args:LV} {L:List Ent} {u:FrameMode} {w:World} {post:Value→List Ent→Prop} (hf:P.funcs[f]?=some fn) (hb:fn.body=some c) (hn:fn.ntmps=n) (hle:Nat.ble args.length n=true)
  (hok:∀ e∈L,e.ok w) (hnd:(L.map Ent.g).Nodup) (k:WC P w (L.map Ent.g) n c (bodyPost P fn (nA w (L.map Ent.g) post)) (kin args 0) L):CallsD P f args.toArray u w (fun e u' w'=>u'=u∧nA w (L.map Ent.g) post e w'):=by
 refine callsD_of_wp hf hb ?_;have hle' : args.length≤n:=by simpa using hle
 refine k _ w rfl (by simp[hn];omega) (fun t v hv=>?_) ⟨.refl _ _,hok,fun e he=>.inr (List.mem_map.2 ⟨e,he,rfl⟩),hnd⟩;obtain⟨j,h1,h2⟩:=v6 args 0 t v hv;subst h1;have hj:j<args.length:=by
  rcases Nat.lt_or_ge j args.length with h|h
  ·exact h
  ·rw[List.getElem?_eq_none h] at h2;cases h2
 simp only[Nat.zero_add];rw[Array.getElem?_append_left (by simpa using hj)];simpa using h2
variable {w0:World} {gs:LN} {n:Nat} {ops:List Oper} {Q:Exit→Act→World→Prop} {main:LN} {T K:List (Nat × Value)} {L:List Ent} {D:LN}
theorem WO.defersA {f:FuncId} {x y:Operand} {cs:LV} {v:Value} {ats:Array TypeId} {ty:TypeId} {pos:String} {after:Array Edge} (hx:ev K x=some (.func (.func f) #[] cs.toArray)) (hy:ev K y=some v)
  (k:∀ a w,a.defers=[{ target:=.fn (.func f) cs.toArray,args:=#[v] }]→a.tmps.size=n→Kn K a→Me w0 gs L w→Q .normal a w):WO P w0 gs n ops Q K L [⟨none,.defer { callee:=.value x,args:=#[y],argTypes:=ats },ty,pos,after,none⟩]:=by
 intro a w hdf hsz hk hme;refine wpList_step fun F hF=>?_;rw[if_pos (show Region.wanted (⟨none,.defer { callee:=.value x,args:=#[y],argTypes:=ats },ty,pos,after,none⟩ : Oper) _=true from rfl)];have hr:(execOp a.eval ⟨none,.defer { callee:=.value x,args:=#[y],argTypes:=ats },ty,pos,after,none⟩).run P w=.ok (.defer { target:=.fn (.func f) cs.toArray,args:=#[v] }) w:=by
  have e:=hk.eval hx;have e2:=hk.eval hy;simp[execOp,resolve,e,e2,Deferred.ofValue,Sem.run_bind,Sem.run_pure,Result.andThen]
 unfold Oper.wp;rw[hr];exact hF _ _ (k _ w (by simp[Act.put,hdf]) hsz (fun t v h=>hk t v h) hme)
theorem WT.withD (Lc:List Ent) (hc:lu ops main (T.map Prod.fst) n=true) (hT:Tlv P w0 gs ops K Lc T [] T) (k:lu ops main (T.map Prod.fst) n=true→Tlv P w0 gs ops K Lc T [] T→WT P w0 gs n ops Q main T D K L):WT P w0 gs n ops Q main T D K L:=k hc hT
theorem Leaves.done {fn:Func} {post:Value→List Ent→Prop} {a:Act} {w:World} {v:Value} {N:List Ent} (hk:Kn K a) (hm:Me w0 [] L w) (hr:∀ a w,Kn K a→Me w0 [] L w→(results fn a.tmps).run P w=.ok v w) (hN:Lle N L) (hp:post v N):Leaves P fn a.tmps (uw w0 post) [] .returning w:=by
 have h:=hN.me hm;exact⟨v,hr a w hk hm,v,N,rfl,h.mod.below,fx.of_me h,hp⟩
end
end Sx
end
end Go.Proofs.YtiaibpcaloigkaaGreatDoor
