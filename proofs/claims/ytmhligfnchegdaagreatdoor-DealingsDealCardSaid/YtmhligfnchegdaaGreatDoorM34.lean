/- Part 34 of the proof: RfY, PrC, PrD, RfZ, RgA, SyC, AbA, PoN, DsA -/
import Derived.Test.YtmhligfnchegdaaGreatDoorM32
import Derived.Test.YtmhligfnchegdaaGreatDoorM24
import Derived.Test.YtmhligfnchegdaaGreatDoorM18
import Derived.Test.YtmhligfnchegdaaGreatDoorM33
import Derived.Test.YtmhligfnchegdaaGreatDoorM07
set_option linter.unusedSimpArgs false
set_option linter.unusedVariables false
namespace Go.Proofs.YtmhligfnchegdaaGreatDoor
open Go Go.RowKit Go.BigFrame
namespace Sx
attribute [local irreducible] wd DQ DQS WO WC WX
set_option maxHeartbeats 2000000 in
theorem r14_ProveN (p q g h:Nat) (s:ByteArray) (x base y draw c S:Nat) (hp:p<B256) (hq:q<B256) (hx:x<B256) (hb:base<B256) (hy:y<B256) (hd:draw<B256) (hB:prB p q x base y draw=false) :
    Fn Tryz.prog 39 [grpV p q g h,.string s,numV x,numV base,numV y,numV draw] Tr (Is (prV false c S)):=by
  have h1:=r8_May p q g h base hb hp
  have h1':=r8_May p q g h y hy hp
  have h2:=r14_exponent p q g h x hx hq
  have h3:=r14_exponent p q g h draw hd hq
  unfold prB at hB
  cases e2:mayN x x q with
  | false =>
    rw[e2] at h2
    clear hB e2
    refine Fn.enter Tryz.func39 rfl rfl rfl ?_
    intro w hw
    repeat (first|refine Td ?_|(refine Tm ?_;intro _)|refine WO.acall (hc:=h1) (k:=?_)|refine WO.acall (hc:=h1') (k:=?_)|refine WO.acall (hc:=h2) (k:=?_)|refine WO.acall (hc:=h3) (k:=?_)|refine Tc ?_|exact Tz)
    done
  | true =>
  rw[e2] at h2 hB
  clear e2
  cases e0:gMay p base with
  | false =>
    rw[e0] at h1
    clear hB e0
    refine Fn.enter Tryz.func39 rfl rfl rfl ?_
    intro w hw
    repeat (first|refine Td ?_|(refine Tm ?_;intro _)|refine WO.acall (hc:=h1) (k:=?_)|refine WO.acall (hc:=h1') (k:=?_)|refine WO.acall (hc:=h2) (k:=?_)|refine WO.acall (hc:=h3) (k:=?_)|refine Tc ?_|exact Tz)
    done
  | true =>
  rw[e0] at h1 hB
  clear e0
  cases e1:gMay p y with
  | false =>
    rw[e1] at h1'
    clear hB e1
    refine Fn.enter Tryz.func39 rfl rfl rfl ?_
    intro w hw
    repeat (first|refine Td ?_|(refine Tm ?_;intro _)|refine WO.acall (hc:=h1) (k:=?_)|refine WO.acall (hc:=h1') (k:=?_)|refine WO.acall (hc:=h2) (k:=?_)|refine WO.acall (hc:=h3) (k:=?_)|refine Tc ?_|exact Tz)
    done
  | true =>
  rw[e1] at h1' hB
  clear e1
  cases e3:mayN draw draw q with
  | false =>
    rw[e3] at h3
    clear hB e3
    refine Fn.enter Tryz.func39 rfl rfl rfl ?_
    intro w hw
    repeat (first|refine Td ?_|(refine Tm ?_;intro _)|refine WO.acall (hc:=h1) (k:=?_)|refine WO.acall (hc:=h1') (k:=?_)|refine WO.acall (hc:=h2) (k:=?_)|refine WO.acall (hc:=h3) (k:=?_)|refine Tc ?_|exact Tz)
    done
  | true =>
  rw[e3] at h3 hB
  clear e3
  have e4:draw=0:=by simpa using hB
  refine Fn.enter Tryz.func39 rfl rfl rfl ?_
  intro w hw
  repeat (first|refine Td ?_|(refine Tm ?_;intro _)|refine WO.acall (hc:=h1) (k:=?_)|refine WO.acall (hc:=h1') (k:=?_)|refine WO.acall (hc:=h2) (k:=?_)|refine WO.acall (hc:=h3) (k:=?_)|refine WO.does a_eqNum ?_|refine Tc ?_|exact Tz)
  done
set_option maxHeartbeats 2000000 in
theorem r14_ProveY (p q g h:Nat) (s:ByteArray) (x base y draw c:Nat) (hp:p<B256) (hq:q<B256) (hx:x<B256) (hb:base<B256) (hy:y<B256) (hd:draw<B256) (hs:s.size≤68719476736) (hB:prB p q x base y draw=true) (hc:prC p q (strB s) x base y draw=c) :
    Fn Tryz.prog 39 [grpV p q g h,.string s,numV x,numV base,numV y,numV draw] Tr (Is (prV true c ((draw+x*c%q)%q))):=by
  have h1:=r8_May p q g h base hb hp
  have h1':=r8_May p q g h y hy hp
  have h2:=r14_exponent p q g h x hx hq
  have h3:=r14_exponent p q g h draw hd hq
  unfold prB at hB
  simp only[Bool.and_eq_true,decide_eq_true_eq] at hB
  obtain⟨⟨⟨⟨hgb,hgy⟩,e2⟩,e3⟩,e4⟩:=hB
  rw[hgb] at h1
  rw[hgy] at h1'
  rw[e2] at h2
  rw[e3] at h3
  have hq1:=(mayN_spec e2).1
  have p1:=r14_power p q g h base x hb hx hp
  have p2:=r14_power p q g h y x hy hx hp
  have p3:=r14_power p q g h base draw hb hd hp
  have p4:=r14_power p q g h y draw hy hd hp
  rw[hgb] at p1 p3
  rw[hgy] at p2 p4
  have hC:=r14_challenge p q g h s base (base ^ x%p) y (y ^ x%p) (base ^ draw%p) (y ^ draw%p) hq (by omega) hs
  have hcl:prC p q (strB s) x base y draw<q:=hNum_lt (by omega) _ _
  rw[show hNum q (strB s) [be 32 base,be 32 (base ^ x%p),be 32 y,be 32 (y ^ x%p),be 32 (base ^ draw%p),be 32 (y ^ draw%p)]=prC p q (strB s) x base y draw from rfl] at hC
  rw[hc] at hC hcl
  clear hc
  have hM:=r9_Mul p q g h x c hx (Nat.lt_trans hcl hq) hq
  have hxq:=(mayN_spec e2).2.1
  have hdq:=(mayN_spec e3).2.1
  rw[show mayN x c q=true by simp[mayN,hq1,hxq,hcl]] at hM
  have hml:x*c%q<q:=Nat.mod_lt _ (by omega)
  have hA:=r9_Add p q g h draw (x*c%q) hd (Nat.lt_trans hml hq) hq
  rw[show mayN draw (x*c%q) q=true by simp[mayN,hq1,hdq,hml]] at hA
  generalize (draw+x*c%q)%q=S at *
  generalize x*c%q=M at *
  generalize base ^ x%p=P1 at *
  generalize y ^ x%p=P2 at *
  generalize base ^ draw%p=P3 at *
  generalize y ^ draw%p=P4 at *
  refine Fn.enter Tryz.func39 rfl rfl rfl ?_
  intro w hw
  repeat (first|refine Td ?_|(refine Tm ?_;intro _)|refine WO.acall (hc:=h1) (k:=?_)|refine WO.acall (hc:=h1') (k:=?_)|refine WO.acall (hc:=h2) (k:=?_)|refine WO.acall (hc:=h3) (k:=?_)|refine WO.does a_eqNum ?_|refine Tc ?_|exact Tz)
  refine WC.adraw 23 (k:=?_)
  repeat (first|refine Da ?_|refine DQ.acall (hc:=p1) (k:=?_)|refine DQ.acall (hc:=p2) (k:=?_)|refine DQ.acall (hc:=p3) (k:=?_)|refine DQ.acall (hc:=p4) (k:=?_)|refine DQ.acall (hc:=hC) (k:=?_)|refine Dc ?_)
  refine DQ.anil (k:=?_)
  intro sx _
  generalize sx 22 0=gK
  repeat (first|refine Td ?_|(refine Tm ?_;intro _)|refine WO.acall (hc:=hM) (k:=?_)|refine WO.acall (hc:=hA) (k:=?_)|refine Tc ?_|exact Tz)
  done
theorem r14_Prove (p q g h:Nat) (s:ByteArray) (x base y draw:Nat) (hp:p<B256) (hq:q<B256) (hx:x<B256) (hb:base<B256) (hy:y<B256) (hd:draw<B256) (hs:s.size≤68719476736) :
    Fn Tryz.prog 39 [grpV p q g h,.string s,numV x,numV base,numV y,numV draw] Tr (Is (prV (prB p q x base y draw) (prC p q (strB s) x base y draw) ((draw+x*prC p q (strB s) x base y draw%q)%q))):=by
  generalize hc:prC p q (strB s) x base y draw=c
  cases hB:prB p q x base y draw with
  | false=>exact r14_ProveN p q g h s x base y draw c _ hp hq hx hb hy hd hB
  | true=>exact r14_ProveY p q g h s x base y draw c hp hq hx hb hy hd hs hB hc
end Sx
end Go.Proofs.YtmhligfnchegdaaGreatDoor
namespace Go.Proofs.YtmhligfnchegdaaGreatDoor
open Go Go.RowKit Go.BigFrame
namespace Sx
attribute [local irreducible] wd DQ DQS WO WC WX
theorem gIn_may {p q a:Nat} (h:gIn p q a=true):gMay p a=true:=by
  unfold gIn at h;simp at h;exact h.1
end Sx
end Go.Proofs.YtmhligfnchegdaaGreatDoor
namespace Go.Proofs.YtmhligfnchegdaaGreatDoor
open Go Go.RowKit Go.BigFrame
namespace Sx
attribute [local irreducible] wd DQ DQS WO WC WX
end Sx
end Go.Proofs.YtmhligfnchegdaaGreatDoor
namespace Go.Proofs.YtmhligfnchegdaaGreatDoor
open Go Go.RowKit Go.BigFrame
namespace Sx
attribute [local irreducible] wd DQ DQS WO WC WX
end Sx
end Go.Proofs.YtmhligfnchegdaaGreatDoor
namespace Go.Proofs.YtmhligfnchegdaaGreatDoor
open Go Go.RowKit Go.BigFrame
namespace Sx
attribute [local irreducible] wd DQ DQS WO WC WX
end Sx
end Go.Proofs.YtmhligfnchegdaaGreatDoor
namespace Go.Proofs.YtmhligfnchegdaaGreatDoor
open Go Go.RowKit Go.BigFrame
namespace Sx
section
variable {P:Program}
def LPost (w:World) (gs:List Nat) (post:Value→List Ent→Prop):Ending→World→Prop:=fun e w'=>∃ v N,e=.returned v∧Me w gs N w'∧post v N
def FnL (P:Program) (f:FuncId) (args:List Value) (L:List Ent) (R:World→Prop) (post:Value→List Ent→Prop):Prop :=
  ∀ w,(∀ e∈L,e.ok w)→(L.map Ent.g).Nodup→R w→Calls P f args.toArray w (LPost w (L.map Ent.g) post)
theorem FnL.enter {n:Nat} {f:FuncId} {fn:Func} {c:Code} {args:List Value} {L:List Ent} {R:World→Prop} {post:Value→List Ent→Prop} (hf:P.funcs[f]?=some fn) (hb:fn.body=some c) (hn:fn.ntmps=n) (hle:Nat.ble args.length n=true)
    (k:∀ w,R w→WC P w (L.map Ent.g) n c (bodyPost P fn (LPost w (L.map Ent.g) post)) (kin args 0) L):FnL P f args L R post:=by
  intro w hok hnd hw
  refine calls_of_wp hf hb ?_
  have hle' : args.length≤n:=by simpa using hle
  refine k w hw _ w rfl (by simp[hn];omega) (fun t v hv=>?_) ⟨.refl _ _,hok,fun e he=>.inr (List.mem_map.2 ⟨e,he,rfl⟩),hnd⟩
  obtain⟨j,h1,h2⟩:=kin_spec args 0 t v hv
  subst h1
  have hj:j<args.length:=by
    rcases Nat.lt_or_ge j args.length with h|h
    · exact h
    · rw[List.getElem?_eq_none h] at h2;cases h2
  simp only[Nat.zero_add]
  rw[Array.getElem?_append_left (by simpa using hj)]
  simpa using h2
theorem FnM.toL {f:FuncId} {args:List Value} {g t:Nat} {cs cs' : List Value} {R:World→Prop} {v:Value} (h:FnM P f args g t cs cs' R v):FnL P f args [⟨g,t,cs⟩] R (fun u N=>u=v∧N=[⟨g,t,cs'⟩]):=fun w h1 _ hw =>
  (h w (h1 _ (by simp)) hw).mono fun _ _ ⟨e,hm,hok⟩=>⟨v,[⟨g,t,cs'⟩],e,⟨hm,by simpa using hok,by simp,by simp⟩,rfl,rfl⟩
inductive Pks:List Ent→List Ent→List Ent→Prop
  | nil {L:List Ent}:Pks L [] L
  | cons {L L1 M R:List Ent} {g t:Nat} {cs:List Value}:Pk L g t cs L1→Pks L1 M R→Pks L (⟨g,t,cs⟩::M) R
theorem Pks.perm {L M R:List Ent} (h:Pks L M R):L.Perm (M++R):=by
  induction h with
  | nil=>exact .refl _
  | cons h1 _ ih=>exact h1.perm.trans (ih.cons _)
theorem Me.callL {w0 w w' : World} {gs:List Nat} {M R N:List Ent} (h:Me w0 gs (M++R) w) (hm:Me w (M.map Ent.g) N w'):Me w0 gs (N++R) w':=by
  have hnd:=h.nodup
  rw[List.map_append,List.nodup_append] at hnd
  have hR:∀ e∈R,e.ok w':=fun e he=>(h.ok e (List.mem_append_right _ he)).keep (hm.mod.block e.g (h.ok e (List.mem_append_right _ he)).lt (fun hg=>hnd.2.2 _ hg _ (List.mem_map.2 ⟨e,he,rfl⟩) rfl))
  refine⟨⟨hm.mod.os.trans h.mod.os,hm.mod.tape.trans h.mod.tape,hm.mod.output.trans h.mod.output,Nat.le_trans h.mod.size hm.mod.size,fun k hk hn=>?_⟩,fun e he=>?_,fun e he=>?_,?_⟩
  · refine (hm.mod.block k (Nat.lt_of_lt_of_le hk h.mod.size) (fun hg=>?_)).trans (h.mod.block k hk hn)
    obtain⟨e,he,rfl⟩:=List.mem_map.1 hg
    rcases h.mine e (List.mem_append_left _ he) with h1|h1
    · omega
    · exact hn h1
  · rcases List.mem_append.1 he with he|he
    · exact hm.ok e he
    · exact hR e he
  · rcases List.mem_append.1 he with he|he
    · rcases hm.mine e he with h1|h1
      · exact .inl (Nat.le_trans h.mod.size h1)
      · obtain⟨e',he',hg⟩:=List.mem_map.1 h1
        rw[← hg]
        exact h.mine e' (List.mem_append_left _ he')
    · exact h.mine e (List.mem_append_right _ he)
  · rw[List.map_append,List.nodup_append]
    refine⟨hm.nodup,hnd.2.1,fun x hx y hy e=>?_⟩
    obtain⟨e1,he1,rfl⟩:=List.mem_map.1 hx
    obtain⟨e2,he2,rfl⟩:=List.mem_map.1 hy
    have h2:=(h.ok e2 (List.mem_append_right _ he2)).lt
    rcases hm.mine e1 he1 with h1|h1
    · omega
    · exact hnd.2.2 _ h1 _ (List.mem_map.2 ⟨e2,he2,rfl⟩) e
end
section
variable {P:Program} {w0:World} {gs:List Nat} {n:Nat} {ops:List Oper} {Q:Exit→Act→World→Prop} {K:List (Nat × Value)} {L:List Ent} {rest:List Oper}
variable {d:Nat} {op:Op} {ty:TypeId} {pos:String} {after:Array Edge} {gd:Option (Nat × Bool)}
theorem WO.callsLV {f:FuncId} [Cal P f] {x:Operand} {xs:Array Operand} {ats:Array TypeId} {ar fs cs ar' : List Value} {M R:List Ent} {Rq:World→Prop} {post:Value→List Ent→Prop} (hc:FnL P f ar' M Rq post) (hx:ev K x=some (.func (.func f) fs.toArray cs.toArray)) (ha:evs K xs.toList=some ar) (hh:fs++ar++cs=ar')
    (hp:Pks L M R) (hR:∀ w,Mr w0 gs L w→Rq w) (k:∀ v N,post v N→WO P w0 gs n ops Q ((d,v)::K) (N++R) rest) (hd:Nat.blt d n=true:=by rfl) (hw:wk ops K gd=some true:=by rfl) :
    WO P w0 gs n ops Q K L (⟨some d,.call { callee:=.value x,args:=xs,argTypes:=ats },ty,pos,after,gd⟩::rest):=by
  intro a w hdf hsz hk hme
  refine wpList_step fun F hF=>?_
  rw[if_pos (wk_spec (o:=⟨some d,.call { callee:=.value x,args:=xs,argTypes:=ats },ty,pos,after,gd⟩) hk hw)]
  have hd' : d<n:=by simpa [Nat.blt_eq] using hd
  have hme':=hme.perm hp.perm
  have hnd:=hme'.nodup
  rw[List.map_append,List.nodup_append] at hnd
  unfold Oper.wp
  subst hh
  rw[run_call hk hx ha,Oper.upon_enter]
  refine (hc w (fun e he=>hme'.ok e (List.mem_append_left _ he)) hnd.1 (hR w hme.mr)).mono ?_
  rintro e w' ⟨v,N,rfl,hm,hq⟩
  exact hF _ _ (k v N hq _ _ (by rw[put_defers];exact hdf) (by rw[put_size];exact hsz) (hk.put (by omega) v) (hme'.callL hm))
theorem WO.callsL {f:FuncId} [Cal P f] {xs:Array Operand} {ats:Array TypeId} {ar:List Value} {M R:List Ent} {Rq:World→Prop} {post:Value→List Ent→Prop} (hc:FnL P f ar M Rq post)
    (hR:∀ w,Mr w0 gs L w→Rq w) (k:∀ v N,post v N→WO P w0 gs n ops Q ((d,v)::K) (N++R) rest) (ha:evs K xs.toList=some ar:=by rfl) (hp:Pks L M R:=by (repeat (first|exact Pks.nil|refine Pks.cons (by repeat (first|exact Pk.here|apply Pk.there)) ?_))) (hd:Nat.blt d n=true:=by rfl) (hw:wk ops K gd=some true:=by rfl) :
    WO P w0 gs n ops Q K L (⟨some d,.call { callee:=.value (.func f),args:=xs,argTypes:=ats },ty,pos,after,gd⟩::rest) :=
  WO.callsLV (fs:=[]) (cs:=[]) hc rfl ha (by simp) hp hR k hd hw
theorem WX.retP_of {fn:Func} {v:Value} {N:List Ent} {post:Value→List Ent→Prop} (hr:∀ a w,Kn K a→Me w0 gs L w→(results fn a.tmps).run P w=.ok v w) (hN:Lle N L) (hp:post v N):WX w0 gs n .ret (bodyPost P fn (LPost w0 gs post)) K L:=fun a w h1 _ h3 h4 =>
  ⟨h1,v,hr a w h3 h4,v,N,rfl,hN.me h4,hp⟩
theorem WX.retP_ofN {fn:Func} {v:Value} {N:List Ent} {post:Value→List Ent→Prop} (hr:∀ a w,Kn K a→Me w0 gs L w→(results fn a.tmps).run P w=.ok v w) (hN:Lle N L) (hp:post v N):WX w0 gs n .normal (bodyPost P fn (LPost w0 gs post)) K L:=fun a w h1 _ h3 h4 =>
  ⟨h1,v,hr a w h3 h4,v,N,rfl,hN.me h4,hp⟩
theorem resP0 {fn:Func} (hfn:fn.results=#[]) (a:Act) (w:World) (_:Kn K a) (_:Me w0 gs L w):(results fn a.tmps).run P w=.ok (.tuple #[]) w:=by
  rw[results_eq,hfn];simp
theorem resP1 {fn:Func} {r:ResultVar} {v:Value} (hfn:fn.results=#[r]) (hr:Rv P w0 gs K L r v) (a:Act) (w:World) (hk:Kn K a) (hme:Me w0 gs L w):(results fn a.tmps).run P w=.ok v w:=by
  have h:=mapM1 (hr a w hk hme)
  rw[results_eq,hfn,Sem.run_bind,h];rfl
end
section
variable {P:Program} {w0:World} {gs:List Nat} {K:List (Nat × Value)} {L:List Ent}
theorem does_eqlY {x y:Operand} {t yt ty:TypeId} {k:IntKind} {m n:Int} (hx:ev K x=some (.int k m)) (hy:ev K y=some (.int k n)) (h:m=n):Does P w0 gs K L (.binOp .eql t x y yt) ty (.bool true):=by
  have:=does_eql (P:=P) (w0:=w0) (gs:=gs) (L:=L) (t:=t) (yt:=yt) (ty:=ty) hx hy
  rw[decide_eq_true h] at this
  exact this
theorem does_eqlN {x y:Operand} {t yt ty:TypeId} {k:IntKind} {m n:Int} (hx:ev K x=some (.int k m)) (hy:ev K y=some (.int k n)) (h:m≠n):Does P w0 gs K L (.binOp .eql t x y yt) ty (.bool false):=by
  have:=does_eql (P:=P) (w0:=w0) (gs:=gs) (L:=L) (t:=t) (yt:=yt) (ty:=ty) hx hy
  rw[decide_eq_false h] at this
  exact this
theorem does_neqY {x y:Operand} {t yt ty:TypeId} {k:IntKind} {m n:Int} (hx:ev K x=some (.int k m)) (hy:ev K y=some (.int k n)) (h:m≠n):Does P w0 gs K L (.binOp .neq t x y yt) ty (.bool true):=by
  have:=does_neq (P:=P) (w0:=w0) (gs:=gs) (L:=L) (t:=t) (yt:=yt) (ty:=ty) hx hy
  rw[decide_eq_true h] at this
  exact this
theorem does_neqN {x y:Operand} {t yt ty:TypeId} {k:IntKind} {m n:Int} (hx:ev K x=some (.int k m)) (hy:ev K y=some (.int k n)) (h:m=n):Does P w0 gs K L (.binOp .neq t x y yt) ty (.bool false):=by
  have:=does_neq (P:=P) (w0:=w0) (gs:=gs) (L:=L) (t:=t) (yt:=yt) (ty:=ty) hx hy
  rw[decide_eq_false (fun hn=>hn h)] at this
  exact this
theorem does_gtrY {x y:Operand} {t yt ty:TypeId} {k:IntKind} {m n:Int} (hx:ev K x=some (.int k m)) (hy:ev K y=some (.int k n)) (h:n<m):Does P w0 gs K L (.binOp .gtr t x y yt) ty (.bool true):=by
  have:=does_gtr (P:=P) (w0:=w0) (gs:=gs) (L:=L) (t:=t) (yt:=yt) (ty:=ty) hx hy
  rw[decide_eq_true h] at this
  exact this
theorem does_gtrN {x y:Operand} {t yt ty:TypeId} {k:IntKind} {m n:Int} (hx:ev K x=some (.int k m)) (hy:ev K y=some (.int k n)) (h:¬ n<m):Does P w0 gs K L (.binOp .gtr t x y yt) ty (.bool false):=by
  have:=does_gtr (P:=P) (w0:=w0) (gs:=gs) (L:=L) (t:=t) (yt:=yt) (ty:=ty) hx hy
  rw[decide_eq_false h] at this
  exact this
theorem does_lssY {x y:Operand} {t yt ty:TypeId} {k:IntKind} {m n:Int} (hx:ev K x=some (.int k m)) (hy:ev K y=some (.int k n)) (h:m<n):Does P w0 gs K L (.binOp .lss t x y yt) ty (.bool true):=by
  have:=does_lss (P:=P) (w0:=w0) (gs:=gs) (L:=L) (t:=t) (yt:=yt) (ty:=ty) hx hy
  rw[decide_eq_true h] at this
  exact this
theorem does_lssN {x y:Operand} {t yt ty:TypeId} {k:IntKind} {m n:Int} (hx:ev K x=some (.int k m)) (hy:ev K y=some (.int k n)) (h:¬ m<n):Does P w0 gs K L (.binOp .lss t x y yt) ty (.bool false):=by
  have:=does_lss (P:=P) (w0:=w0) (gs:=gs) (L:=L) (t:=t) (yt:=yt) (ty:=ty) hx hy
  rw[decide_eq_false h] at this
  exact this
theorem does_geqY {x y:Operand} {t yt ty:TypeId} {k:IntKind} {m n:Int} (hx:ev K x=some (.int k m)) (hy:ev K y=some (.int k n)) (h:n≤m):Does P w0 gs K L (.binOp .geq t x y yt) ty (.bool true):=by
  have:=does_geq (P:=P) (w0:=w0) (gs:=gs) (L:=L) (t:=t) (yt:=yt) (ty:=ty) hx hy
  rw[decide_eq_true h] at this
  exact this
theorem does_geqN {x y:Operand} {t yt ty:TypeId} {k:IntKind} {m n:Int} (hx:ev K x=some (.int k m)) (hy:ev K y=some (.int k n)) (h:¬ n≤m):Does P w0 gs K L (.binOp .geq t x y yt) ty (.bool false):=by
  have:=does_geq (P:=P) (w0:=w0) (gs:=gs) (L:=L) (t:=t) (yt:=yt) (ty:=ty) hx hy
  rw[decide_eq_false h] at this
  exact this
end
end Sx
end Go.Proofs.YtmhligfnchegdaaGreatDoor
namespace Go.Proofs.YtmhligfnchegdaaGreatDoor
open Go Go.RowKit Go.BigFrame
namespace Sx
attribute [local irreducible] wd DQ DQS WO WC WX
def nodeB (n:Nat) (N:List (Nat × Nat)):Bool:=decide (1≤n) && decide (n≤N.length)
theorem nodeB_spec {n:Nat} {N:List (Nat × Nat)} (h:nodeB n N=true):1≤n∧n≤N.length:=by
  unfold nodeB at h;simp at h;exact h
section
variable (p q g h:Nat) (f sec:Int) (pt:Option Addr) (c:Nat) (N:List (Nat × Nat))
theorem r15_Node (n:Nat) (hn:n<256) (hNl:N.length≤1099511627776):Fn Tryz.prog 31 [stV p q g h f sec (.slice pt N.length c),.int .u8 (n:Int)] Tr (Is (.bool (nodeB n N))):=by
  have hcv:IntKind.i64.wrap (n:Int)=(n:Int):=i64_in (by omega) (by omega)
  unfold nodeB
  by_cases h1:1≤n
  · rw[decide_eq_true h1,Bool.true_and]
    have d1:decide ((1:Int)≤(n:Int))=true:=decide_eq_true (by omega)
    have d2:decide ((n:Int)≤(N.length:Int))=decide (n≤N.length):=by simp
    refine Fn.enter Tryz.func31 rfl rfl rfl ?_
    intro w hw
    repeat (first|refine Ta ?_|(refine Tm ?_;intro _)|refine Tc ?_|exact Tz)
    rw[d1]
    repeat (first|refine Ta ?_|(refine Tm ?_;intro _)|refine WO.does (does_conv rfl hcv) ?_|refine Tc ?_|exact Tz)
    rw[d2]
    repeat (first|refine Ta ?_|(refine Tm ?_;intro _)|refine Tc ?_|exact Tz)
  · rw[decide_eq_false h1,Bool.false_and]
    have d1:decide ((1:Int)≤(n:Int))=false:=decide_eq_false (by omega)
    refine Fn.enter Tryz.func31 rfl rfl rfl ?_
    intro w hw
    repeat (first|refine Ta ?_|(refine Tm ?_;intro _)|refine Tc ?_|exact Tz)
    rw[d1]
    repeat (first|refine Ta ?_|(refine Tm ?_;intro _)|refine Tc ?_|exact Tz)
theorem c_node (n:Nat) (hn:n<256) (hNl:N.length≤1099511627776):Fn Tryz.prog 19 [stV p q g h f sec (.slice pt N.length c),.int .u8 (n:Int)] Tr (Is (.bool (nodeB n N))):=by
  have hcv:IntKind.i64.wrap (n:Int)=(n:Int):=i64_in (by omega) (by omega)
  unfold nodeB
  by_cases h1:1≤n
  · rw[decide_eq_true h1,Bool.true_and]
    have d1:decide ((1:Int)≤(n:Int))=true:=decide_eq_true (by omega)
    have d2:decide ((n:Int)≤(N.length:Int))=decide (n≤N.length):=by simp
    refine Fn.enter Tryz.func19 rfl rfl rfl ?_
    intro w hw
    repeat (first|refine Ta ?_|(refine Tm ?_;intro _)|refine Tc ?_|exact Tz)
    rw[d1]
    repeat (first|refine Ta ?_|(refine Tm ?_;intro _)|refine WO.does (does_conv rfl hcv) ?_|refine Tc ?_|exact Tz)
    rw[d2]
    repeat (first|refine Ta ?_|(refine Tm ?_;intro _)|refine Tc ?_|exact Tz)
  · rw[decide_eq_false h1,Bool.false_and]
    have d1:decide ((1:Int)≤(n:Int))=false:=decide_eq_false (by omega)
    refine Fn.enter Tryz.func19 rfl rfl rfl ?_
    intro w hw
    repeat (first|refine Ta ?_|(refine Tm ?_;intro _)|refine Tc ?_|exact Tz)
    rw[d1]
    repeat (first|refine Ta ?_|(refine Tm ?_;intro _)|refine Tc ?_|exact Tz)
end
def abL (ep d n:Nat):List Nat:=be 8 ep++be 1 d++be 1 n
theorem abL_length (ep d n:Nat):(abL ep d n).length=10:=by unfold abL;simp only[List.length_append,be_length]
theorem r15_About (ep d n:Nat) (he:ep<18446744073709551616) (hd:d<256) (hn:n<256):Fn Tryz.prog 37 [.int .u64 (ep:Int),.int .u8 (d:Int),.int .u8 (n:Int)] Tr (NewZ 5 (abL ep d n)):=by
  have p0:=r_Put [] ep 8 0 none (by decide) (by decide) he (by decide)
  have p1:=fun g c=>r_Put (be 8 ep) d 1 c (some ⟨g,0,none⟩) (by decide) (by decide) (by omega) (by rw[be_length];decide)
  have p2:=fun g c=>r_Put (be 8 ep++be 1 d) n 1 c (some ⟨g,0,none⟩) (by decide) (by decide) (by omega) (by simp only[List.length_append,be_length];decide)
  rw[List.nil_append] at p0
  have hc1:IntKind.u64.wrap (d:Int)=(d:Int):=u64_in (by omega) (by omega)
  have hc2:IntKind.u64.wrap (n:Int)=(n:Int):=u64_in (by omega) (by omega)
  unfold abL
  generalize be 8 ep++be 1 d++be 1 n=X2 at *
  generalize be 8 ep++be 1 d=X1 at *
  generalize be 8 ep=X0 at *
  refine Fn.enter Tryz.func37 rfl rfl rfl ?_
  intro w hw
  repeat (first|refine Ta ?_|(refine Tm ?_;intro _)|refine Tc ?_|exact Tz)
  refine WO.acallZ (hc:=p0) (hR:=fun w1 hm=>Rd.nil) (hm:=rfl) (k:=fun g1 c1 R1 a1 b1=>?_)
  repeat (first|refine Ta ?_|(refine Tm ?_;intro _)|refine WO.does (does_conv rfl hc1) ?_|refine Tc ?_|exact Tz)
  refine WO.acallZ (hc:=p1 g1 c1) (hR:=fun w1 hm=>rd_ownZ hm Hs.here a1 b1) (hm:=rfl) (k:=fun g2 c2 R2 a2 b2=>?_)
  repeat (first|refine Ta ?_|(refine Tm ?_;intro _)|refine WO.does (does_conv rfl hc2) ?_|refine Tc ?_|exact Tz)
  refine WO.acallZ (hc:=p2 g2 c2) (hR:=fun w1 hm=>rd_ownZ hm Hs.here a2 b2) (hm:=rfl) (k:=fun g3 c3 R3 a3 b3=>?_)
  repeat (first|refine Ta ?_|(refine Tm ?_;intro _)|refine Tc ?_|exact Tz)
  exact WX.retZ a3 b3 rfl
def secB (p q h x key:Nat):Bool:=mayN x x q && gMay p h && decide (h ^ x%p=key)
theorem pow_lt {p h x:Nat} (hm:gMay p h=true):h ^ x%p<p:=Nat.mod_lt _ (by have:=(gMay_spec hm).1;omega)
def sDraw:ByteArray:=⟨#[100,114,97,119]⟩
def drawN (q x:Nat) (H:List Nat):Nat:=if hNum q (strB sDraw) [be 32 x,H]=0 then 1 else hNum q (strB sDraw) [be 32 x,H]
section
variable (p q g h:Nat)
set_option maxHeartbeats 2000000 in
theorem r15_Draw (x:Nat) (H:List Nat) (hx:x<B256) (hq:q<B256) (h0:0<q) (hH:∀ b∈H,b<256) (hl:H.length=32):Fn Tryz.prog 40 [grpV p q g h,numV x,.agg (byC H).toArray] Tr (Is (numV (drawN q x H))):=by
  have hP:=r_PutLong [] x 0 none (by decide)
  rw[List.nil_append] at hP
  have hN:=fun g3 c3 g5 gR=>r6_Number q sDraw [.slice (some ⟨g3,0,none⟩) 32 c3,.slice (some ⟨g5,0,none⟩) 32 32] [be 32 x,H] gR 0 2 hq h0 (by
    intro X hX
    simp only[List.mem_cons,List.not_mem_nil,or_false] at hX
    rcases hX with rfl|rfl
    · exact be_lt
    · exact hH) (by
    simp only[hBytes,hHead,hBody,List.flatMap_cons,List.flatMap_nil,List.length_append,be_length,strB_length,List.length_nil,hl]
    decide) (by simp)
  have hlt:hNum q (strB sDraw) [be 32 x,H] < B256:=Nat.lt_trans (Nat.mod_lt _ h0) hq
  unfold drawN
  generalize hNum q (strB sDraw) [be 32 x,H]=R at *
  have hbl:(be 32 x).length=32:=be_length _ _
  have hbH:(byC H).length=32:=by rw[byC_length,hl]
  refine Fn.enter Tryz.func40 rfl rfl rfl ?_
  intro w hw
  repeat (first|refine Ta ?_|(refine Tm ?_;intro _)|refine Tc ?_|exact Tz)
  rename_i g3 g4 g5 g6
  refine WC.adrawF [9] 11 (k:=?_)
  iterate 3 (refine DQ.auto (k:=?_))
  refine DQ.acallZ (hc:=hP) (hR:=fun _=>Rd.nil) (hX:=by rw[hbl];decide) (k:=?_)
  refine DQ.does (v:=fun _=>.slice (some ⟨g5,0,none⟩) 32 32) (fun s _=>does_sliceA rfl) Dp.const ?_
  rw[hbl]
  refine DQ.makes (vf:=fun _ g=>.slice (some ⟨g,0,none⟩) 2 2) (t:=84) (cs:=fun s=>[.slice (some ⟨s 3 0,0,none⟩) 32 (s 3 1),.slice (some ⟨g5,0,none⟩) 32 32]) (fun s _=>makes_build rfl (by decide) rfl) Dp.const (by intro s s' h;dsimp only;rw[h]<;>decide +kernel) ?_
  refine DQ.callE (v:=fun _=>.tuple #[numV R,.int .i64 0]) (fun s=>[⟨s 5 0,84,[.slice (some ⟨s 3 0,0,none⟩) 32 (s 3 1),.slice (some ⟨g5,0,none⟩) 32 32]⟩,⟨s 3 0,5,byC (be 32 x++rz (s 3))⟩]) (fun s=>.cons 5 (.head _) (by decide +kernel) (.cons 3 (by repeat (first|exact .head _|apply List.Mem.tail)) (by decide +kernel) .nil)) (fun s _=>hN (s 3 0) (s 3 1) g5 (s 5 0)) (fun s=>rfl) (fun s hC w hm=>⟨Hs.seg Hs.here hm,Parts.cons (RdP.own (g:=s 3 0) (c:=s 3 1) (X:=be 32 x) (r:=byC (rz (s 3))) (t:=5) hm (by rw[← byC_append];exact Hs.there Hs.here) (by have h1:(be 32 x++rz (s 3)).length=s 3 1:=hC.2.1;rw[List.length_append] at h1;omega) hC.2.2) (Parts.cons (by have:=RdP.own0 (g:=g5) (c:=32) (X:=H) (t:=82) hm (by repeat (first|exact Hs.here|apply Hs.there)) (by omega) (by decide);rw[hl] at this;exact this) Parts.nil)⟩) Dp.const ?_
  repeat (first|refine Da ?_|refine Df ?_)
  refine DQ.anil (k:=?_)
  intro sx _
  repeat (first|refine Ta ?_|(refine Tm ?_;intro _)|refine WO.does a_eqNum ?_|refine Tc ?_|exact Tz)
  by_cases hR:R=0
  · have d:decide (R=0)=true:=decide_eq_true hR
    rw[if_pos hR,d]
    repeat (first|refine Ta ?_|(refine Tm ?_;intro _)|refine WO.does (does_buildA (cs:=numC 1) rfl rfl (by kernel_rfl)) ?_|refine Tc ?_|exact Tz)
  · have d:decide (R=0)=false:=decide_eq_false hR
    rw[if_neg hR,d]
    repeat (first|refine Ta ?_|(refine Tm ?_;intro _)|refine Tc ?_|exact Tz)
end
theorem setB_may {p q g h:Nat} {f sec:Int} {N:List (Nat × Nat)} (hs:setB p q g h f sec N=true):gMay p h=true:=by
  unfold setB at hs
  simp only[Bool.and_eq_true] at hs
  have hk:=hs.1.2
  unfold kB at hk
  rw[Bool.and_eq_true] at hk
  exact gIn_may hk.1
theorem secB_may {p q h x key:Nat} (hs:secB p q h x key=true):mayN x x q=true:=by
  unfold secB at hs
  simp only[Bool.and_eq_true] at hs
  exact hs.1.1
theorem drawN_lt {q x:Nat} {H:List Nat} (h0:0<q) (hq:q<B256):drawN q x H<B256:=by
  unfold drawN
  split
  · exact B256_one'
  · exact Nat.lt_trans (hNum_lt h0 _ _) hq
theorem be_one {n:Nat} (h:n<256):be 1 n=[n]:=by
  simp[be,List.range,List.range.loop];omega
theorem abL_cells {ep d n:Nat} (hd:d<256) (hn:n<256):byC (be 8 ep)++[.int .u8 (d:Int),.int .u8 (n:Int)]=byC (abL ep d n):=by
  unfold abL
  rw[be_one hd,be_one hn,byC_append,byC_append]
  simp[byC]
theorem abL_lt {ep d n:Nat}:∀ b∈abL ep d n,b<256:=by
  intro b hb
  unfold abL at hb
  rcases List.mem_append.1 hb with hb|hb
  · rcases List.mem_append.1 hb with hb|hb<;>exact be_lt b hb
  · exact be_lt b hb
abbrev dlV (ep d:Nat) (v y pr:Value) (c s:Nat):Value:=.agg #[.int .u64 (ep:Int),.int .u8 (d:Int),v,y,pr,.int .u64 ((wd 0 c:Nat):Int),.int .u64 ((wd 1 c:Nat):Int),.int .u64 ((wd 2 c:Nat):Int),.int .u64 ((wd 3 c:Nat):Int),.int .u64 ((wd 0 s:Nat):Int),.int .u64 ((wd 1 s:Nat):Int),.int .u64 ((wd 2 s:Nat):Int),.int .u64 ((wd 3 s:Nat):Int)]
abbrev dlC (ep d:Nat) (v y pr:Value) (c s:Nat):List Value:=[.int .u64 (ep:Int),.int .u8 (d:Int),v,y,pr,.int .u64 ((wd 0 c:Nat):Int),.int .u64 ((wd 1 c:Nat):Int),.int .u64 ((wd 2 c:Nat):Int),.int .u64 ((wd 3 c:Nat):Int),.int .u64 ((wd 0 s:Nat):Int),.int .u64 ((wd 1 s:Nat):Int),.int .u64 ((wd 2 s:Nat):Int),.int .u64 ((wd 3 s:Nat):Int)]
end Sx
end Go.Proofs.YtmhligfnchegdaaGreatDoor
namespace Go.Proofs.YtmhligfnchegdaaGreatDoor
namespace Sx
def allN (q:Nat) (l:List Nat):Bool:=decide (1<q) && l.all (fun x=>decide (x<q))
theorem allN_spec {q:Nat} {l:List Nat} (h:allN q l=true):1<q∧∀ x∈l,x<q:=by
  unfold allN at h
  simpa using h
theorem allN_no {q i x:Nat} {l:List Nat} (hx:l[i]?=some x) (h:decide (x<q)=false):allN q l=false:=by
  unfold allN
  have:l.all (fun x=>decide (x<q))=false:=by
    rw[List.all_eq_false]
    exact⟨x,List.mem_of_getElem? hx,by simp at h ⊢;exact h⟩
  rw[this,Bool.and_false]
theorem allN_yes {q:Nat} {l:List Nat} (h1:1<q) (h:∀ j,j<l.length→∀ x,l[j]?=some x→decide (x<q)=true):allN q l=true:=by
  unfold allN
  rw[decide_eq_true h1,Bool.true_and,List.all_eq_true]
  intro x hx
  obtain⟨j,hj⟩:=List.mem_iff_getElem?.1 hx
  exact h j (by rcases Nat.lt_or_ge j l.length with h1|h1;exact h1;rw[List.getElem?_eq_none h1] at hj;cases hj) x hj
def polyN:List Nat→Nat→Nat
  | [],_=>0
  | c::r,x=>c+x*polyN r x
theorem polyN_snoc (p:List Nat) (c x:Nat):polyN (p++[c]) x=polyN p x+c*x ^ p.length:=by
  induction p with
  | nil=>simp[polyN]
  | cons a r ih =>
    simp only[List.cons_append,polyN,ih,List.length_cons,Nat.pow_succ,Nat.mul_add]
    rw[Nat.add_assoc,Nat.mul_left_comm x c,Nat.mul_comm x (x ^ r.length)]
def hornN (q x:Nat):List Nat→Nat
  | []=>0
  | c::r=>(hornN q x r*x%q+c)%q
theorem hornN_eq (q x:Nat) (p:List Nat):hornN q x p=polyN p x%q:=by
  induction p with
  | nil=>simp[hornN,polyN]
  | cons c r ih =>
    simp only[hornN,polyN,ih]
    rw[Nat.mod_mul_mod,Nat.mod_add_mod,Nat.add_comm,Nat.mul_comm]
theorem polyN_step (q x:Nat) (p:List Nat) (c:Nat):(polyN p x%q+c*(x ^ p.length%q)%q)%q=polyN (p++[c]) x%q:=by
  rw[polyN_snoc,Nat.mul_mod_mod,← Nat.add_mod]
theorem pow_step (q x k:Nat):x ^ k%q*x%q=x ^ (k+1)%q:=by
  rw[Nat.mod_mul_mod,Nat.pow_succ]
def ofZ (q:Nat) (n:Int):Nat:=if q<2 then 0 else (n%(q:Int)).toNat
theorem ofZ_nat (q m:Nat) (h:0<q):ofZ q (m:Int)=m%q:=by
  unfold ofZ
  split
  · have:q=1:=by omega
    subst this
    rw[Nat.mod_one]
  · rw[← Int.natCast_emod,Int.toNat_natCast]
theorem ofZ_zero (n:Int):ofZ 0 n=0:=rfl
end Sx
end Go.Proofs.YtmhligfnchegdaaGreatDoor
namespace Go.Proofs.YtmhligfnchegdaaGreatDoor
open Go Go.RowKit Go.BigFrame
namespace Sx
attribute [local irreducible] wd
def sShare:ByteArray:=⟨#[115,104,97,114,101]⟩
def sDealing:ByteArray:=⟨#[100,101,97,108,105,110,103]⟩
def sSign:ByteArray:=⟨#[115,105,103,110]⟩
def exN (p a n:Nat):Nat:=okV (gMay p a) (a ^ n%p)
def shN (q:Nat) (l:List Nat) (i:Nat):Nat:=polyN l (i+1)%q
def shL (q:Nat) (l:List Nat) (n:Nat):List Nat:=(List.range n).map (shN q l)
def ky (N:List (Nat × Nat)) (i:Nat):Nat:=(N.getD i (0,0)).2
def dV (p q g:Nat) (l:List Nat) (i:Nat):Nat:=exN p g (shN q l i)
def dY (p q:Nat) (l:List Nat) (N:List (Nat × Nat)) (i:Nat):Nat:=exN p (ky N i) (shN q l i)
def dH (ep d v y i:Nat):List Nat:=hOf (strB sShare) [abL ep d (i+1),be 32 v,be 32 y]
def pfN (p q g x k draw:Nat):Nat × Nat:=(okV (prB p q x g k draw) (prC p q (strB sShare) x g k draw),okV (prB p q x g k draw) ((draw+x*prC p q (strB sShare) x g k draw%q)%q))
def dP (p q g:Nat) (l:List Nat) (N:List (Nat × Nat)) (ep d x i:Nat):Nat × Nat :=
  pfN p q g (shN q l i) (ky N i) (drawN q x (dH ep d (dV p q g l i) (dY p q l N i) i))
def dHash (ep d:Nat) (V Y:List Nat) (Pr:List (Nat × Nat)):List Nat:=hOf (strB sDealing) [be 8 ep++be 1 d,V.flatMap (be 32),Y.flatMap (be 32),Pr.flatMap fun k=>be 32 k.1++be 32 k.2]
def sgB (p q g x draw:Nat):Bool:=gMay p g && mayN x x q && mayN draw draw q && decide (x≠0) && decide (draw≠0)
def sgC (p q g x draw:Nat) (H:List Nat):Nat:=hNum q (strB sSign) [be 32 (g ^ x%p),be 32 (g ^ draw%p),H]
def sgN (p q g x draw:Nat) (H:List Nat):Nat × Nat:=(okV (sgB p q g x draw) (sgC p q g x draw H),okV (sgB p q g x draw) ((draw+x*sgC p q g x draw H%q)%q))
def dVs (p q g:Nat) (l:List Nat) (n:Nat):List Nat:=(List.range n).map (dV p q g l)
def dYs (p q:Nat) (l:List Nat) (N:List (Nat × Nat)) (n:Nat):List Nat:=(List.range n).map (dY p q l N)
def dPs (p q g:Nat) (l:List Nat) (N:List (Nat × Nat)) (ep d x n:Nat):List (Nat × Nat):=(List.range n).map (dP p q g l N ep d x)
def dHs (p q g:Nat) (l:List Nat) (N:List (Nat × Nat)) (ep d x n:Nat):List Nat:=dHash ep d (dVs p q g l n) (dYs p q l N n) (dPs p q g l N ep d x n)
def dSg (p q g:Nat) (l:List Nat) (N:List (Nat × Nat)) (ep d x n:Nat):Nat × Nat:=sgN p q g x (drawN q x (dHs p q g l N ep d x n)) (dHs p q g l N ep d x n)
def sgK (N:List (Nat × Nat)) (d:Nat):Nat:=(N.getD (d - 1) (0,0)).1
def dealB (p q g h:Nat) (f sec:Int) (N:List (Nat × Nat)) (d:Nat) (l:List Nat) (x:Nat):Bool :=
  setB p q g h f sec N && nodeB d N && (decide ((l.length:Int)=f+sec) && allN q l) && secB p q g x (sgK N d)
theorem range_take_succ {α:Type} (f:Nat→α) {i:Nat}:(List.range (i+1)).map f=(List.range i).map f++[f i]:=by
  rw[List.range_succ,List.map_append];rfl
theorem exN_lt {p a n:Nat} (hp:p<B256):exN p a n<B256:=by
  unfold exN
  cases h:gMay p a with
  | false=>exact B256_zero
  | true=>exact Nat.lt_trans (pow_lt h) hp
theorem shN_lt {q i:Nat} {l:List Nat} (h:0<q):shN q l i<q:=Nat.mod_lt _ h
theorem setB_spec {p q g h:Nat} {f sec:Int} {N:List (Nat × Nat)} (hs:setB p q g h f sec N=true):1≤N.length∧N.length≤7∧N.length<q∧0≤f∧1≤sec∧f+sec≤5∧gMay p g=true∧gMay p h=true:=by
  have hm:=setB_may hs
  unfold setB at hs
  simp only[Bool.and_eq_true,decide_eq_true_eq] at hs
  obtain⟨⟨⟨⟨⟨⟨⟨⟨⟨⟨h1,h2⟩,h3⟩,h4⟩,h5⟩,h6⟩,h7⟩,h8⟩,h9⟩,_⟩,_⟩:=hs
  unfold kB at h9
  rw[Bool.and_eq_true] at h9
  exact⟨by omega,by omega,by omega,h1,h3,by omega,gIn_may h9.1,hm⟩
theorem ky_get {N:List (Nat × Nat)} {i:Nat} {k:Nat × Nat} (h:N[i]?=some k):ky N i=k.2:=by
  simp[ky,List.getD,h]
theorem sgK_get {d:Nat} {N:List (Nat × Nat)} {k:Nat × Nat} (h:N[d - 1]?=some k):sgK N d=k.1:=by
  simp[sgK,List.getD,h]
theorem shL_get {q n i:Nat} {l:List Nat} (h:i<n):(shL q l n)[i]?=some (shN q l i):=by
  simp[shL,h]
theorem shL_length {q n:Nat} {l:List Nat}:(shL q l n).length=n:=by simp[shL]
theorem dHash_bytes {ep d:Nat} {V Y:List Nat} {Pr:List (Nat × Nat)}:∀ X∈[be 8 ep++be 1 d,V.flatMap (be 32),Y.flatMap (be 32),Pr.flatMap fun k=>be 32 k.1++be 32 k.2],∀ x∈X,x<256:=by
  intro X hX x hx
  simp only[List.mem_cons,List.not_mem_nil,or_false] at hX
  rcases hX with rfl|rfl|rfl|rfl
  · rcases List.mem_append.1 hx with h|h<;>exact be_lt _ h
  · obtain⟨_,_,h⟩:=List.mem_flatMap.1 hx;exact be_lt _ h
  · obtain⟨_,_,h⟩:=List.mem_flatMap.1 hx;exact be_lt _ h
  · obtain⟨_,_,h⟩:=List.mem_flatMap.1 hx
    rcases List.mem_append.1 h with h|h<;>exact be_lt _ h
theorem flat_be (l:List Nat):(l.flatMap (be 32)).length=l.length*32:=by
  induction l with
  | nil=>rfl
  | cons a r ih=>rw[List.flatMap_cons,List.length_append,be_length,ih,List.length_cons];omega
theorem flat_be2 (l:List (Nat × Nat)):(l.flatMap fun k=>be 32 k.1++be 32 k.2).length=l.length*64:=by
  induction l with
  | nil=>rfl
  | cons a r ih=>rw[List.flatMap_cons,List.length_append,List.length_append,be_length,be_length,ih,List.length_cons];omega
theorem secB_ex {p q g x key:Nat}:secB p q g x key=(mayN x x q && gMay p g && decide (exN p g x=key)):=by
  unfold secB exN
  cases gMay p g with
  | false=>simp
  | true=>rfl
end Sx
end Go.Proofs.YtmhligfnchegdaaGreatDoor
