/- Part 6 of the proof. -/
import Derived.Test.YteibfbjpkjkejaaGreatDoorS05
set_option linter.unusedSimpArgs false
set_option linter.unusedVariables false
namespace Go.Proofs.YteibfbjpkjkejaaGreatDoor
section
open Go Go.RowKit Go.BigFrame
namespace Sx
open Kp
section
variable {P:Program} {w0:World} {gs:List Nat} {n:Nat} {fl:List Nat} {hl:List (Nat × List Ent)} {Q:Exit→Act→World→Prop} {ops:List Oper} {L0:List Ent}
variable {tail rest:List Oper} {nh:Nat} {i:Nat} {C:zE→Prop} {K:zE→List (Nat × Value)} {N:zE→List (Nat × Ent)}
variable {d:Nat} {op:Op} {ty:TypeId} {pos:String} {after:Array Edge} {gd:Option (Nat × Bool)}
inductive Hi:List (Nat × List Ent)→Nat→List Ent→Prop
 | here {hl:List (Nat × List Ent)} {i:Nat} {es:List Ent}:Hi ((i,es)::hl) i es
 | there {hl:List (Nat × List Ent)} {i:Nat} {es:List Ent} {p:Nat × List Ent}:Hi hl i es→Hi (p::hl) i es
theorem Hi.mem {hl:List (Nat × List Ent)} {i:Nat} {es:List Ent} (h:Hi hl i es):(i,es)∈hl:=by
 induction h with
 | here=>simp
 | there _ ih=>exact List.mem_cons_of_mem _ ih
theorem DQS.auto {v:zE→Value} (hv:∀ s,C s→Does P w0 gs (K s) L0 op ty (v s):=by (intro s _;first
  | exact sW|exact zy|exact zR|exact zn|exact zi|exact yC|exact vG|exact um|exact sq|exact sf|exact y7|exact yA|exact yN|exact yF|exact vz|exact u5|exact jU|exact j9|exact iA
  | exact iC|exact ic|exact iE|exact j4|exact jL|exact j5|exact pu|exact pw|exact pH|exact pL|exact pp|exact jN|exact qj|exact sk|exact u6|exact y6)) (dep:Dp ops i v:=by first|exact Dp.const|(intro s s' h;(try dsimp only);first|rfl|(rw[h]<;>decide +kernel)|(rw[h,h]<;>decide +kernel)|(rw[h,h,h]<;>decide +kernel)|(rw[h,h,h,h]<;>decide +kernel)))
  (k:DQS P w0 gs n fl hl Q ops L0 tail nh (i+1) rest C (fun s=>(d,v s)::K s) N) (hfl:fl.contains i=false:=by rfl) (hw:∀ s,wk ops (K s) gd=some true:=by intro _;rfl) (hd:Nat.blt d n=true:=by rfl) :
  DQS P w0 gs n fl hl Q ops L0 tail nh i (⟨some d,op,ty,pos,after,gd⟩::rest) C K N:=DQS.does hv dep k hfl hw hd
theorem DQS.autoF {v:zE→Value} (hv:∀ s,C s→∀ w0 gs,Does P w0 gs (K s) [] op ty (v s):=by (intro s _ _ _;first
  | exact sW|exact zy|exact zR|exact zn|exact zi|exact yC|exact vG|exact um|exact sq|exact sf|exact y7|exact yA|exact yN|exact yF|exact vz|exact u5|exact jU|exact j9|exact iA
  | exact iC|exact ic|exact iE|exact j4|exact jL|exact j5|exact pu|exact pw|exact pH|exact pL|exact pp|exact jN|exact qj|exact sk|exact u6|exact y6)) (dep:Dp ops i v:=by first|exact Dp.const|(intro s s' h;(try dsimp only);first|rfl|(rw[h]<;>decide +kernel)|(rw[h,h]<;>decide +kernel)|(rw[h,h,h]<;>decide +kernel)|(rw[h,h,h,h]<;>decide +kernel)))
  (k:DQS P w0 gs n fl hl Q ops L0 tail nh (i+1) rest C (fun s=>(d,v s)::K s) N) (hw:∀ s,wk ops (K s) gd=some true:=by intro _;rfl) (hd:Nat.blt d n=true:=by rfl) :
  DQS P w0 gs n fl hl Q ops L0 tail nh i (⟨some d,op,ty,pos,after,gd⟩::rest) C K N:=DQS.free hv dep k hw hd
theorem DQS.autoM {vf:zE→Nat→Value} {t:TypeId} {cs:zE→List Value} (hv:∀ s,C s→td P w0 gs (K s) L0 op ty (vf s) t (cs s):=by (intro s _;first|exact ab8|exact ki)) (dep:Dp ops i vf:=by first|exact Dp.const|(intro s s' h;(try dsimp only);first|rfl|(rw[h]<;>decide +kernel)|(rw[h,h]<;>decide +kernel)|(rw[h,h,h]<;>decide +kernel)|(rw[h,h,h,h]<;>decide +kernel))) (depN:Dp ops i cs:=by first|exact Dp.const|(intro s s' h;(try dsimp only);first|rfl|(rw[h]<;>decide +kernel)|(rw[h,h]<;>decide +kernel)|(rw[h,h,h]<;>decide +kernel)|(rw[h,h,h,h]<;>decide +kernel)))
  (k:DQS P w0 gs n fl hl Q ops L0 tail nh (i+1) rest C (fun s=>(d,vf s (s i 0))::K s) (fun s=>(i,⟨s i 0,t,cs s⟩)::N s)) (hfl:fl.contains i=false:=by rfl) (hw:∀ s,wk ops (K s) gd=some true:=by intro _;rfl) (hd:Nat.blt d n=true:=by rfl) :
  DQS P w0 gs n fl hl Q ops L0 tail nh i (⟨some d,op,ty,pos,after,gd⟩::rest) C K N:=DQS.makes hv dep depN k hfl hw hd
theorem DQS.acall {f:FuncId} [Cal P f] {xs:Array Operand} {ats:Array TypeId} {ak:List Value} {v:Value} (ha:∀ s,evs (K s) xs.toList=some ak:=by (intro s;rfl)) (hc:Fn P f ak Tr (Is v))
  (k:DQS P w0 gs n fl hl Q ops L0 tail nh (i+1) rest C (fun s=>(d,v)::K s) N) (hfl:fl.contains i=false:=by rfl) (hw:∀ s,wk ops (K s) gd=some true:=by intro _;rfl) (hd:Nat.blt d n=true:=by rfl) :
  DQS P w0 gs n fl hl Q ops L0 tail nh i (⟨some d,.call { callee:=.value (.func f),args:=xs,argTypes:=ats },ty,pos,after,gd⟩::rest) C K N :=
 DQS.call (ak:=fun _=>ak) (R:=fun _=>Tr) (v:=fun _=>v) (fun _ _=>hc) ha (fun _ _ _ _=>trivial) Dp.const k hfl hw hd
theorem DQS.autoH {v:zE→Value} {g t:Nat} {cs:List Value} (hin:Hi hl i [⟨g,t,cs⟩]:=by (repeat (first|exact Hi.here|apply Hi.there))) (hv:∀ s,C s→∀ w0 gs,Does P w0 gs (K s) [⟨g,t,cs⟩] op ty (v s):=by (intro s _ _ _;first|exact zy (hm:=Hs.here)|exact zR (hm:=Hs.here))) (dep:Dp ops i v:=by first|exact Dp.const|(intro s s' h;(try dsimp only);first|rfl|(rw[h]<;>decide +kernel)|(rw[h,h]<;>decide +kernel)|(rw[h,h,h]<;>decide +kernel)|(rw[h,h,h,h]<;>decide +kernel)))
  (k:DQS P w0 gs n fl hl Q ops L0 tail nh (i+1) rest C (fun s=>(d,v s)::K s) N) (hw:∀ s,wk ops (K s) gd=some true:=by intro _;rfl) (hd:Nat.blt d n=true:=by rfl) :
  DQS P w0 gs n fl hl Q ops L0 tail nh i (⟨some d,op,ty,pos,after,gd⟩::rest) C K N:=DQS.held hin.mem hv dep k hw hd
theorem DQS.anil {L' : zE→List Ent} (hL:∀ s,(N s).map Prod.snd++L0=L' s:=by (intro s;(first|(simp only[List.map_cons,List.map_nil,List.cons_append,List.nil_append]<;>rfl)|rfl))) (k:∀ s,C s→WOS P w0 gs n fl hl Q ops (K s) (L' s) nh tail):DQS P w0 gs n fl hl Q ops L0 tail nh i [] C K N :=
 DQS.nil (fun s hC=>by rw[hL s];exact k s hC)
theorem Kept.nil {k:Nat} {L:List Ent}:Kept ops fl k L []:=trivial
theorem Kept.no {k f:Nat} {es:List Ent} {r:List (Nat × List Ent)} {L:List Ent} (h:mO ops fl (yI ops.length (k+1)) f=false) (hr:Kept ops fl k L r):Kept ops fl k L ((f,es)::r):=⟨.inl h,hr⟩
theorem Kept.one {k f g t:Nat} {cs:List Value} {r:List (Nat × List Ent)} {L:List Ent} (h:Hs L g t cs) (hr:Kept ops fl k L r):Kept ops fl k L ((f,[⟨g,t,cs⟩])::r):=⟨.inr fun e he=>by
 have:e=⟨g,t,cs⟩:=by simpa using he
 subst this;exact h.mem,hr⟩
theorem WOS.auto {k:Nat} {K:List (Nat × Value)} {L:List Ent} {v:Value} (h:Does P w0 gs K L op ty v:=by first
  | exact sW|exact zy|exact zR|exact zn|exact zi|exact yC|exact vG|exact um|exact sq|exact sf|exact y7|exact yA|exact yN|exact yF|exact vz|exact u5|exact jU|exact j9|exact iA
  | exact iC|exact ic|exact iE|exact j4|exact jL|exact j5|exact pu|exact pw|exact pH|exact pL|exact pp|exact jN|exact qj|exact sk|exact u6|exact y6) (hK:Kept ops fl k L hl:=by (repeat (first|exact Kept.nil|refine Kept.no (by decide +kernel) ?_|refine Kept.one (by ((repeat (first|exact Hs.here|apply Hs.there));done)) ?_)))
  (kk:WOS P w0 gs n fl hl Q ops ((d,v)::K) L (k+1) rest) (hd:Nat.blt d n=true:=by rfl) (hw:wk ops K gd=some true:=by rfl) :
  WOS P w0 gs n fl hl Q ops K L k (⟨some d,op,ty,pos,after,gd⟩::rest):=WOS.does h hK kk hd hw
theorem WOS.autoS {k:Nat} {K:List (Nat × Value)} {L L' : List Ent} (h:rS P w0 gs K L op ty L':=by exact zC) (hK:Kept ops fl k L' hl:=by (repeat (first|exact Kept.nil|refine Kept.no (by decide +kernel) ?_|refine Kept.one (by ((repeat (first|exact Hs.here|apply Hs.there));done)) ?_)))
  (kk:WOS P w0 gs n fl hl Q ops K L' (k+1) rest) (hw:wk ops K gd=some true:=by rfl) :
  WOS P w0 gs n fl hl Q ops K L k (⟨none,op,ty,pos,after,gd⟩::rest):=WOS.stores h hK kk hw
def Hll (L:List Ent):List (Nat × List Ent)→Prop
 | []=>True
 | (_,es)::r=>(∀ e∈es,e∈L)∧Hll L r
theorem Hll.out {L:List Ent}:∀ {hl:List (Nat × List Ent)},Hll L hl→∀ p∈hl,∀ e∈p.2,e∈L
 | (_,es)::r,⟨h1,h2⟩,p,hp=>by
  rcases List.mem_cons.1 hp with rfl|hp
  ·exact h1
  ·exact Hll.out h2 p hp
theorem Hll.nil {L:List Ent}:Hll L []:=trivial
theorem Hll.one {L:List Ent} {f g t:Nat} {cs:List Value} {r:List (Nat × List Ent)} (h:Hs L g t cs) (hr:Hll L r):Hll L ((f,[⟨g,t,cs⟩])::r):=⟨fun e he=>by
 have:e=⟨g,t,cs⟩:=by simpa using he
 subst this;exact h.mem,hr⟩
theorem WC.adrawS {K:List (Nat × Value)} {L:List Ent} {id:Nat} {l hd tl:List Oper} [Mix P] (fl:List Nat) (hl:List (Nat × List Ent)) (h:Nat) (k:DQS P w0 gs n fl hl (NoPanic Q) l L tl h 0 hd (fun _=>True) (fun _=>K) (fun _=>[]))
  (h1:l.take h=hd:=by (simp only[List.take_succ_cons,List.take_zero]<;>rfl)) (h2:l.drop h=tl:=by (simp only[List.drop_succ_cons,List.drop_zero]<;>rfl)) (hB:yb l fl h=true:=by decide +kernel)
  (hLs:Hll L hl:=by (repeat (first|exact Hll.nil|refine Hll.one (by (repeat (first|exact Hs.here|apply Hs.there))) ?_))):WC P w0 gs n (.region id l.toArray true) Q K L:=WC.drawS fl hl h hB h1 h2 hLs.out k
end
section
variable {P:Program} {w0:World} {gs:List Nat} {n:Nat} {ops:List Oper} {Q:Exit→Act→World→Prop} {K:List (Nat × Value)} {L:List Ent} {rest:List Oper} {d:Nat}
theorem WO.decT {p:Prop} {ip:Decidable p} (h:p:=by first|assumption|omega) (k:WO P w0 gs n ops Q ((d,.bool true)::K) L rest):WO P w0 gs n ops Q ((d,.bool (@decide p ip))::K) L rest:=by
 rw[decide_eq_true h];exact k
theorem WO.decF {p:Prop} {ip:Decidable p} (h:¬ p:=by first|assumption|omega) (k:WO P w0 gs n ops Q ((d,.bool false)::K) L rest):WO P w0 gs n ops Q ((d,.bool (@decide p ip))::K) L rest:=by
 rw[decide_eq_false h];exact k
end
section
variable {P:Program} {w0:World} {gs:List Nat} {n:Nat} {fl:List Nat} {hl:List (Nat × List Ent)} {Q:Exit→Act→World→Prop} {ops:List Oper} {L0:List Ent}
variable {tail rest:List Oper} {nh i:Nat} {C:zE→Prop} {K:zE→List (Nat × Value)} {N:zE→List (Nat × Ent)} {d:Nat}
theorem DQ.decT {p:Prop} {ip:Decidable p} (h:p:=by first|assumption|omega) (k:DQ P w0 gs n fl Q ops L0 tail i rest C (fun s=>(d,.bool true)::K s) N):DQ P w0 gs n fl Q ops L0 tail i rest C (fun s=>(d,.bool (@decide p ip))::K s) N:=by
 rw[decide_eq_true h];exact k
theorem DQ.decF {p:Prop} {ip:Decidable p} (h:¬ p:=by first|assumption|omega) (k:DQ P w0 gs n fl Q ops L0 tail i rest C (fun s=>(d,.bool false)::K s) N):DQ P w0 gs n fl Q ops L0 tail i rest C (fun s=>(d,.bool (@decide p ip))::K s) N:=by
 rw[decide_eq_false h];exact k
end
section
variable {p q:Prop}
theorem Ta (k:p) (h:p→q:=by first|exact WO.nil|exact fun k=>WO.skip k|exact WX.seq|exact WC.seq|exact WC.region|exact fun k=>WO.autoS (k:=k)):q:=h k
theorem Td (k:p) (h:p→q:=by first|exact WO.nil|exact fun k=>WO.decT (k:=k)|exact fun k=>WO.decF (k:=k)|exact fun k=>WO.skip k|exact WX.seq|exact WC.seq|exact WC.region|exact fun k=>WO.autoS (k:=k)):q:=h k
theorem Tm (k:p) (h:p→q:=by exact fun k=>WO.autoM (k:=k)):q:=h k
theorem Tb (k:p) (h:p→q:=by first|exact fun k=>WO.auto (k:=k)|exact WC.ret|exact WC.skip|exact WX.then_ret|exact WX.noPanic|exact WX.blk_normal|exact WX.blk_ret|exact WX.then_exit|exact WX.blk_exit|exact WX.blk_pass rfl|exact WC.exit|exact WC.block|exact WC.scope|exact WX.scp_normal|exact WX.scp_ret|exact WX.scp_exit|exact WC.label|exact WC.condT rfl|exact WC.condF rfl):q:=h k
theorem Tz (h:q:=by first|exact WX.aret1 (hp:=rfl)|exact WX.aret2 (hp:=rfl)|exact WX.aret3 (hp:=rfl)):q:=h
theorem Da (k:p) (h:p→q:=by first|exact fun k=>DQ.skip k|exact fun k=>DQ.autoM (k:=k)):q:=h k
end
end Sx
end
section
open Go Go.RowKit Go.BigFrame
namespace Sx
class ElT (P:Program) (e:TypeId) (bytes:outParam Nat) (z:outParam (List Value)):Prop where
 info:∃ i,P.info? e=some i∧i.bytes=bytes∧i.size=z.length∧∃ v,i.zero=some v∧v.cells=z.toArray
theorem ElT.bytes {P:Program} {e b:Nat} {z:List Value} [h:ElT P e b z] (w:World):∃ i,(typeInfo e).run P w=.ok i w∧i.bytes=b∧i.size=z.length∧∃ v,i.zero=some v∧v.cells=z.toArray:=by
 obtain⟨i,h1,h2⟩:=h.info;exact⟨i,by simp[typeInfo,h1],h2⟩
theorem ElT.zero {P:Program} {e b:Nat} {z:List Value} [h:ElT P e b z] (w:World):∃ v,(zeroValue e).run P w=.ok v w∧v.cells=z.toArray:=by
 obtain⟨i,h1,h2,h3,v,h4,h5⟩:=h.info;exact⟨v,by simp[zeroValue,typeInfo,h1,h4],h5⟩
def mkz (n:Nat) (z:List Value):List Value:=(List.replicate n z).flatten
theorem zS (n:Nat) (z:List Value):(mkz n z).length=n*z.length:=by
 unfold mkz;simp
theorem abM {z:List Value} {n i:Nat} (h:i<n*z.length):(mkz n z)[i]?=z[i%z.length]?:=by
 induction n generalizing i with
 | zero=>simp at h
 | succ n ih =>
  unfold mkz;rw[List.replicate_succ,List.flatten_cons]
  by_cases hi:i<z.length
  ·rw[List.getElem?_append_left hi,Nat.mod_eq_of_lt hi]
  ·rw[List.getElem?_append_right (by omega)];have:=ih (i:=i - z.length) (by rw[Nat.add_mul,Nat.one_mul] at h;omega);unfold mkz at this;rw[this,show i%z.length=(i - z.length)%z.length from Nat.mod_eq_sub_mod (by omega)]
theorem kL (n:Nat) (z:List Value):((Array.range (n*z.length)).map (fun i=>z.toArray[i%z.toArray.size]!))=(mkz n z).toArray:=by
 apply Array.ext';apply List.ext_getElem?;intro i;simp only[Array.toList_map,Array.toList_range,List.getElem?_map]
 by_cases h:i<n*z.length
 ·rw[abM h,List.getElem?_range h];have hz:0<z.length:=by
   rcases Nat.eq_zero_or_pos z.length with h0|h0
   ·rw[h0] at h;simp at h
   ·exact h0
  have hm:=Nat.mod_lt i hz;simp[hm]
 ·have h1:(mkz n z)[i]?=none:=List.getElem?_eq_none (by rw[zS];omega);rw[h1];have:(List.range (n*z.length))[i]?=none:=List.getElem?_eq_none (by simp;omega);rw[this];rfl
theorem pe (f:Nat→Value):(Array.range 0).map f=#[]:=by apply Array.ext';simp
theorem rA (n:Nat) (v:Value):mkz n [v]=List.replicate n v:=by
 unfold mkz
 induction n with
 | zero=>rfl
 | succ n ih=>rw[List.replicate_succ,List.flatten_cons,ih,List.replicate_succ];rfl
section
variable {P:Program} {w0:World} {gs:List Nat} {K:List (Nat × Value)} {L:List Ent}
theorem yg {t e size b ty:Nat} {z:List Value} {x y:Operand} {k k' : IntKind} {l c:Nat} [SlT P t e size] [ElT P e b z] (hx:ev K x=some (.int k (l:Int))) (hy:ev K y=some (.int k' (c:Int))) (hlc:l≤c) (hb:b*c≤281474976710656) (hc:c≤9223372036854775807) :
  td P w0 gs K L (.makeSlice t x y) ty (fun g=>.slice (some ⟨g,0,none⟩) l c) e (mkz c z):=by
 intro a w hk _ o ho _;have hu:∀ w,(underlying t).run P w=.ok (.slice e) w:=fun w=>by simp[underlying,SlT.under (P:=P) (t:=t)]
 obtain⟨i,h1,h2,h3,v,h4,h5⟩:=ElT.bytes (P:=P) (e:=e) w;obtain⟨v',h6,h7⟩:=ElT.zero (P:=P) (e:=e) w;have hsz:(sizeOf e).run P w=.ok z.length w:=by simp[sizeOf,h1,h3]
 have wl:IntKind.i64.wrap (l:Int)=l:=i64_in (by omega) (by omega);have wc:IntKind.i64.wrap (c:Int)=c:=i64_in (by omega) (by omega);have hbc:((b:Int)*(c:Int))≤281474976710656:=by have h:=Int.ofNat_le.2 hb;rw[Int.natCast_mul] at h;exact h
 have e1:¬ ((c:Int)<0):=by omega
 have e2:¬ (((b:Nat):Int)*(c:Int) > 2 ^ 48):=by
  have h48:(2:Int) ^ 48=281474976710656:=rfl;rw[h48];exact Int.not_lt.2 hbc
 have e3:¬ ((l:Int)<0):=by omega
 have e4:¬ ((l:Int) > (c:Int)):=by omega
 simp only[execOp,ho,hk.eval hx,hk.eval hy,Instr.makeSlice,Sem.run_bind,hu,Result.andThen_ok,asInt,asIntOf,Sem.run_pure,h1,h2,wl,wc];simp only[e1,e2,e3,e4,decide_false,Bool.or_self,Bool.false_eq_true,if_false,run_askRoom,Result.andThen_ok,hsz,Sem.run_bind,Int.toNat_natCast]
 by_cases h0:c*z.length=0
 ·have:mkz c z=[]:=List.eq_nil_of_length_eq_zero (by rw[zS];exact h0);rw[this];simp[h0,newRow,pe]
 ·rw[if_neg h0];simp only[Sem.run_bind,h6,Result.andThen_ok,Sem.run_pure,h7,kL,newRow,run_newObj];rfl
theorem ze {t e size b ty len:Nat} {z cs:List Value} {xs:Array (Nat × Operand)} {vs:List (Nat × Value)} [SlT P t e size] [ElT P e b z] (h1:evp K xs.toList=some vs) (hl:len*z.length≤16777216) (h2:sZ (fun i=>some (i*z.length,z.length)) (mkz len z) vs=some cs) :
  td P w0 gs K L (.buildSlice t len xs) ty (fun g=>.slice (some ⟨g,0,none⟩) len len) e cs:=by
 intro a w hk _ o ho _;have hu:∀ w,(underlying t).run P w=.ok (.slice e) w:=fun w=>by simp[underlying,SlT.under (P:=P) (t:=t)]
 obtain⟨i,g1,g2,g3,v,g4,g5⟩:=ElT.bytes (P:=P) (e:=e) w;obtain⟨v',g6,g7⟩:=ElT.zero (P:=P) (e:=e) w;have hsz:(sizeOf e).run P w=.ok z.length w:=by simp[sizeOf,g1,g3]
 have ee:=hk.evp h1;have e' : (xs.map fun (i,x)=>(i,a.eval x)).toList=vs:=by simpa using ee
 have hf:=oW (place':=fun i=>some (i*z.length,z.length)) (fun i=>rfl) vs (mkz len z) cs h2;have e3:¬ (len*z.length > 2 ^ 24):=by omega
 simp only[execOp,ho,Instr.buildSlice,Sem.run_bind,hu,Result.andThen_ok,hsz];rw[if_neg e3]
 by_cases h0:len*z.length=0
 ·have hm:mkz len z=[]:=List.eq_nil_of_length_eq_zero (by rw[zS];exact h0);rw[hm] at hf;rw[if_pos h0];simp only[Sem.run_bind,Sem.run_pure,Result.andThen_ok,h0];rw[pe,e',hf];rfl
 ·rw[if_neg h0];simp only[Sem.run_bind,g6,Result.andThen_ok,Sem.run_pure,g7,kL,e',hf,newRow,run_newObj];rfl
end
def Rds (w0:World) (gs:List Nat) (L:List Ent) (v:Value) (n:Nat) (xs:List Value):Prop :=
 ∃ p c,v=.slice p n c∧((p=none∧n=0∧xs=[])∨∃ b o,p=some ⟨b,o,none⟩∧∀ w,Mr w0 gs L w→∀ (i:Nat) x,xs[i]?=some x→w.cell? ⟨b,o+i,none⟩=some x)
section
variable {P:Program} {w0:World} {gs:List Nat} {K:List (Nat × Value)} {L:List Ent}
theorem Rds.nil {c:Nat}:Rds w0 gs L (.slice none 0 c) 0 []:=⟨none,c,rfl,.inl ⟨rfl,rfl,rfl⟩⟩
theorem Rds.own {g o t n c m:Nat} {cs xs:List Value} (hm:Hs L g t cs) (hc:cut cs o m=xs):Rds w0 gs L (.slice (some ⟨g,o,none⟩) n c) n xs :=
 ⟨_,c,rfl,.inr ⟨g,o,rfl,fun w hme i x hx=>by rw[(hme.ok _ hm.mem).cell];exact uw hc hx⟩⟩
theorem Rds.seg {b off o n c m:Nat} {cs xs:List Value} (hs:Seg w0 b off cs) (hle:off≤o) (hb:b ∉ gs) (hc:cut cs (o - off) m=xs):Rds w0 gs L (.slice (some ⟨b,o,none⟩) n c) n xs :=
 ⟨_,c,rfl,.inr ⟨b,o,rfl,fun w hme i x hx=>by
  have:=hs.mod hme.mod hb _ x (uw hc hx);rwa [show off+(o - off+i)=o+i by omega] at this⟩⟩
theorem Rds.first {v:Value} {n size:Nat} {xs:List Value} (h:Rds w0 gs L v n xs) (hl:xs.length=n*size) {w:World} (hm:Mr w0 gs L w):(Builtin.firstCells size n v).run P w=.ok xs.toArray w:=by
 obtain⟨p,c,rfl,⟨rfl,rfl,rfl⟩|⟨b,o,rfl,hr⟩⟩:=h
 ·rfl
 ·show (loadCells ⟨b,o,none⟩ (n*size)).run P w=_;rw[← hl];exact run_loadCells_list (P:=P) w ⟨b,o,none⟩ xs (fun j v hj=>by rw[vO];exact hr w hm j v hj)
theorem Rds.take {v:Value} {n m size:Nat} {xs:List Value} (h:Rds w0 gs L v n xs) (hm' : m≤n) (hl:xs.length=n*size) {w:World} (hm:Mr w0 gs L w):(Builtin.firstCells size m v).run P w=.ok (xs.take (m*size)).toArray w:=by
 obtain⟨p,c,rfl,⟨rfl,rfl,rfl⟩|⟨b,o,rfl,hr⟩⟩:=h
 ·simp[Builtin.firstCells]
 ·have hms:m*size≤n*size:=Nat.mul_le_mul_right _ hm';have hle:(xs.take (m*size)).length=m*size:=by rw[List.length_take];omega
  have:=run_loadCells_list (P:=P) w ⟨b,o,none⟩ (xs.take (m*size)) (fun j v hj=>by
   rw[vO];rw[List.getElem?_take] at hj
   split at hj
   ·exact hr w hm j v hj
   ·cases hj)
  rw[hle] at this;exact this
theorem Rds.len {v:Value} {n:Nat} {xs:List Value} (h:Rds w0 gs L v n xs) (w:World):(Builtin.lenOf v).run P w=.ok n w:=by
 obtain⟨p,c,rfl,_⟩:=h;rfl
theorem yL {b:Builtin} {xs:Array Operand} {ats:Array TypeId} {ak:List Value} {a:Act} {ty:TypeId} {pos:String} {after:Array Edge} {gd:Option (Nat × Bool)} {dst:Option Tmp} (hk:Kn K a) (ha:evs K xs.toList=some ak) :
  execOp a.eval ⟨dst,.call { callee:=.builtin b,args:=xs,argTypes:=ats },ty,pos,after,gd⟩=builtin b ats ty (xs.map fun|.const _=>true|_=>false) ak.toArray:=by
 have e1:xs.map a.eval=ak.toArray:=by have h:=hk.evals ha;apply Array.ext';simpa using h
 rw[execOp_builtin,e1];rfl
theorem ru {st xt ty e size bts g t len cap n:Nat} {z cs xs cs' : List Value} {x y:Operand} {s v:Value} {L' : List Ent} [SlT P st e size] [SlT P xt e size] [ElT P e bts z] (hx:ev K x=some (.slice (some ⟨g,0,none⟩) len cap)) (hy:ev K y=some v)
  (hr:Rds w0 gs L v n xs) (hxl:xs.length=n*z.length) (hroom:len+n≤cap) (h1:xs.all Value.oneCell'=true) (hrp:Rp L g t cs cs' L') (hc:over cs (len*z.length) xs=cs') (hle:len*z.length+xs.length≤cs.length) (hs:size=z.length) (ht:t≠0) :
  ∀ a w,Kn K a→Me w0 gs L w→∀ o:Oper,o.op=.call { callee:=.builtin .append,args:=#[x,y],argTypes:=#[st,xt] }→o.type=ty →
   ∃ w',(execOp a.eval o).run P w=.ok (.value (.slice (some ⟨g,0,none⟩) (len+n) cap)) w'∧Me w0 gs L' w':=by
 intro a w hk hme o ho hty;obtain⟨dst,op,ty',pos,after,guard⟩:=o;subst ho;subst hc;have hok:=(hme.ok _ hrp.mem).row ht;have hu:∀ w,(underlying st).run P w=.ok (.slice e) w:=fun w=>by simp[underlying,SlT.under (P:=P) (t:=st)]
 have hu2:∀ w,(underlying xt).run P w=.ok (.slice e) w:=fun w=>by simp[underlying,SlT.under (P:=P) (t:=xt)]
 obtain⟨i,g1,g2,g3,_⟩:=ElT.bytes (P:=P) (e:=e) w;have hsz:∀ w,(sizeOf e).run P w=.ok size w:=SlT.size (P:=P) (t:=st);obtain⟨w',e1,e2,e3,e4,e5,e6,e7⟩:=vd (P:=P) (t:=t) g xs (len*z.length) 0 cs w (by omega) (fun u hu=>List.all_eq_true.1 h1 u hu) hok;refine⟨w',?_,hme.write hrp e2 e3 e4 (by omega) (fun k _ hk=>e6 k hk) e7⟩;rw[yL hk (ak:=[.slice (some ⟨g,0,none⟩) len cap,v]) (by simp[evs,hx,hy]),builtin_append];subst hs;simp only[Sem.run_bind,Builtin.append_,List.getElem?_toArray,List.getElem?_cons_zero,List.getElem?_cons_succ,hu,Result.andThen_ok,hsz,hu2,Sem.run_pure,hr.len,Bool.false_eq_true,if_false];rw[if_pos hroom];simp only[Bool.not_false,if_true,Sem.run_bind,hr.first hxl hme.mr,Result.andThen_ok,Bool.false_eq_true,if_false,vO,Nat.zero_add,e1,Sem.run_pure]
end
section
variable {P:Program} {w0:World} {gs:List Nat} {K:List (Nat × Value)} {L:List Ent}
def aeC (P:Program) (w0:World) (gs:List Nat) (K:List (Nat × Value)) (L:List Ent) (op:Op) (ty:TypeId) (v:Value) (L' : List Ent):Prop :=
 ∀ a w,Kn K a→Me w0 gs L w→∀ o:Oper,o.op=op→o.type=ty→∃ w',(execOp a.eval o).run P w=.ok (.value v) w'∧Me w0 gs L' w'
section
variable {n:Nat} {ops:List Oper} {Q:Exit→Act→World→Prop} {rest:List Oper} {d:Nat} {op:Op} {ty:TypeId} {pos:String} {after:Array Edge} {gd:Option (Nat × Bool)}
theorem WO.both {v:Value} {L' : List Ent} (h:aeC P w0 gs K L op ty v L') (k:WO P w0 gs n ops Q ((d,v)::K) L' rest) (hd:Nat.blt d n=true:=by rfl) (hw:wk ops K gd=some true:=by rfl) :
  WO P w0 gs n ops Q K L (⟨some d,op,ty,pos,after,gd⟩::rest):=fun a w hdf hsz hk hme =>
 let ⟨_,h1,h2⟩:=h a w hk hme ⟨some d,op,ty,pos,after,gd⟩ rfl rfl
 dQ (by simpa [Nat.blt_eq] using hd) hw hdf hsz hk h1 h2 k
end
theorem uO {st xt ty e size bts len cap n:Nat} {p:Option Addr} {z xs ys:List Value} {x y:Operand} {v:Value} [SlT P st e size] [SlT P xt e size] [ElT P e bts z] (hx:ev K x=some (.slice p len cap)) (hy:ev K y=some v)
  (ho:Rds w0 gs L (.slice p len cap) len ys) (hyl:ys.length=len*z.length) (hr:Rds w0 gs L v n xs) (hxl:xs.length=n*z.length) (hroom:cap<len+n) (hn:len+n<9223372036854775808) (hcap:Builtin.nextslicecap (len+n) cap*bts≤281474976710656) (hbts:bts≠0) (hs:size=z.length) :
  kc P w0 gs K L (.call { callee:=.builtin .append,args:=#[x,y],argTypes:=#[st,xt] }) ty (fun s=>.slice (some ⟨s 0,0,none⟩) (len+n) (s 1)) (fun s=>[⟨s 0,e,ys++xs++mkz (s 1 - (len+n)) z⟩]) (fun s=>len+n≤s 1∧s 1<9223372036854775808):=by
 intro a w hk hme o hop hty;obtain⟨dst,op,ty',pos,after,guard⟩:=o;subst hop;have hu:∀ w,(underlying st).run P w=.ok (.slice e) w:=fun w=>by simp[underlying,SlT.under (P:=P) (t:=st)]
 have hu2:∀ w,(underlying xt).run P w=.ok (.slice e) w:=fun w=>by simp[underlying,SlT.under (P:=P) (t:=xt)]
 have hsz:∀ w,(sizeOf e).run P w=.ok size w:=SlT.size (P:=P) (t:=st);obtain⟨i,g1,g2,g3,_⟩:=ElT.bytes (P:=P) (e:=e) w;obtain⟨i1,g1',g2',g3',_⟩:=ElT.bytes (P:=P) (e:=e) w.drew;obtain⟨v',g6,g7⟩:=ElT.zero (P:=P) (e:=e) w.drew;have hmd:Mr w0 gs L w.drew:=⟨⟨hme.mod.os,hme.mod.tape,hme.mod.output,hme.mod.size,hme.mod.block⟩,hme.ok⟩;generalize hG:(len+n)+w.tape w.drawn (.appendCap (len+n) cap e)%(2 ^ 63 - (len+n))=G;have hG1:len+n≤G:=by omega
 have hG2:G<9223372036854775808:=by
  have:=Nat.mod_lt (w.tape w.drawn (.appendCap (len+n) cap e)) (show 0<2 ^ 63 - (len+n) by omega);omega
 have hch:(choose (.appendCap (len+n) cap e)).run P w=.ok G w.drew:=by
  rw[run_choose];simp only[Question.forced,Bool.false_eq_true,if_false,Question.cut,hG];rfl
 have hroom' : ¬ (len+n≤cap):=by omega
 have hcap' : ¬ (Builtin.nextslicecap (len+n) cap*bts > 2 ^ 48):=by omega
 subst hs;have hrest:Builtin.zeroCells v'.cells (G - (len+n))=(mkz (G - (len+n)) z).toArray:=by
  unfold Builtin.zeroCells;rw[g7,← kL];simp
 refine⟨fun j=>if j=0 then w.heap.size else G,w.drew.alloc (.cells (ys++xs++mkz (G - (len+n)) z).toArray e),?_,⟨hG1,hG2⟩,((Below.refl _ _).drew).alloc (Nat.le_refl _) _,?_⟩
 ·rw[yL hk (ak:=[.slice p len cap,v]) (by simp[evs,hx,hy]),builtin_append];simp only[Sem.run_bind,Builtin.append_,List.getElem?_toArray,List.getElem?_cons_zero,List.getElem?_cons_succ,hu,Result.andThen_ok,hsz,hu2,Sem.run_pure,hr.len,Bool.false_eq_true,if_false];rw[if_neg hroom'];simp only[Sem.run_bind,g1,Result.andThen_ok,g2,hbts,or_self,and_false,if_false,false_or];rw[if_neg hcap'];simp only[Sem.run_bind,hch,Result.andThen_ok,g1',g2',run_askRoom,ho.first hyl hmd,Bool.not_false,if_true,hr.first hxl hmd,g6,hrest,newRow,run_newObj,Sem.run_pure];simp;rfl
 ·have hb:w.heap.size=w.drew.heap.size:=rfl;refine⟨fun ee he=>?_,fun ee he=>?_,by simp⟩
  ·have:ee=⟨w.heap.size,e,ys++xs++mkz (G - (len+n)) z⟩:=by simpa using he
   subst this;exact .of (heap_alloc_new w.drew _)
  ·have:ee=⟨w.heap.size,e,ys++xs++mkz (G - (len+n)) z⟩:=by simpa using he
   subst this;exact Nat.le_refl _
theorem qm {st ty e size g t off dl dc n m:Nat} {cs xs cs' ys:List Value} {x y:Operand} {ats:Array TypeId} {v:Value} {L' : List Ent} [SlT P st e size] (hx:ev K x=some (.slice (some ⟨g,off,none⟩) dl dc)) (hy:ev K y=some v) (hat:ats[0]?=some st)
  (hr:Rds w0 gs L v n xs) (hxl:xs.length=n*size) (hm:Nat.min n dl=m) (hys:xs.take (m*size)=ys) (h1:ys.all Value.oneCell'=true) (hrp:Rp L g t cs cs' L') (hc:over cs off ys=cs') (hle:off+ys.length≤cs.length) (ht:t≠0) :
  aeC P w0 gs K L (.call { callee:=.builtin .copy,args:=#[x,y],argTypes:=ats }) ty (.int .i64 (m:Int)) L':=by
 intro a w hk hme o ho hty;obtain⟨dst,op,ty',pos,after,guard⟩:=o;subst ho;subst hc;subst hm;have hok:=(hme.ok _ hrp.mem).row ht;have hu:∀ w,(underlying st).run P w=.ok (.slice e) w:=fun w=>by simp[underlying,SlT.under (P:=P) (t:=st)]
 have hsz:∀ w,(sizeOf e).run P w=.ok size w:=SlT.size (P:=P) (t:=st);obtain⟨w',e1,e2,e3,e4,e5,e6,e7⟩:=vd (P:=P) (t:=t) g ys off 0 cs w (by omega) (fun u hu=>List.all_eq_true.1 h1 u hu) hok;refine⟨w',?_,hme.write hrp e2 e3 e4 (by omega) (fun k _ hk=>e6 k hk) e7⟩;rw[yL hk (ak:=[.slice (some ⟨g,off,none⟩) dl dc,v]) (by simp[evs,hx,hy]),builtin_copy];have htk:=hr.take (P:=P) (m:=Nat.min n dl) (Nat.min_le_left _ _) hxl hme.mr;rw[hys] at htk;simp only[Sem.run_bind,Builtin.copy_,hat,List.getElem?_toArray,List.getElem?_cons_zero,List.getElem?_cons_succ,hu,Result.andThen_ok,hsz,Sem.run_pure,hr.len,htk,e1,goInt]
theorem vS {t len elem size g o ty:Nat} {x:Operand} [ArT P t len elem size] (hx:ev K x=some (.pointer (some ⟨g,o,none⟩))):Does P w0 gs K L (.slice t x none none none) ty (.slice (some ⟨g,o,none⟩) len len):=by
 intro a w hk _ oo ho _;have hu:∀ w,(underlying t).run P w=.ok (.array len elem) w:=fun w=>by simp[underlying,ArT.under (P:=P) (t:=t)]
 simp only[execOp,ho,hk.eval hx,Option.map_none,Instr.sliceAt,Sem.run_bind,hu,Result.andThen_ok,Instr.sureAddr,Sem.run_pure,Instr.sliceBounds,ArT.size (P:=P) (t:=t),Nat.zero_mul,Nat.sub_zero];simp[vO]
theorem vj {t elem size ty len cap h:Nat} {p:Option Addr} {k:IntKind} {x y:Operand} [SlT P t elem size] (hx:ev K x=some (.slice p len cap)) (hy:ev K y=some (.int k (h:Int))) (hh:h≤cap):Does P w0 gs K L (.slice t x none (some y) none) ty (.slice p h cap):=by
 intro a w hk _ oo ho _;have hu:∀ w,(underlying t).run P w=.ok (.slice elem) w:=fun w=>by simp[underlying,SlT.under (P:=P) (t:=t)]
 have hb:((0:Int)≤(h:Int)∧(h:Int)≤(cap:Int)):=by omega
 simp only[execOp,ho,hk.eval hx,Option.map_none,Option.map_some,hk.eval hy,Instr.sliceAt,Sem.run_bind,hu,Result.andThen_ok,Instr.slice,Sem.run_pure,Instr.sliceBounds,Instr.sliceBound,asIntOf,if_pos hb,SlT.size (P:=P) (t:=t),Nat.zero_mul,Nat.sub_zero,Int.toNat_natCast];have:p.map (fun a=>a.add 0)=p:=by cases p<;>simp[Addr.add]
 simp[this]
theorem vc {t elem size ty len cap l b o o' : Nat} {k:IntKind} {x y:Operand} [SlT P t elem size] (hx:ev K x=some (.slice (some ⟨b,o,none⟩) len cap)) (hy:ev K y=some (.int k (l:Int))) (hh:l≤len) (hc:l<cap) (ho' : o+l*size=o') :
  Does P w0 gs K L (.slice t x (some y) none none) ty (.slice (some ⟨b,o',none⟩) (len - l) (cap - l)):=by
 intro a w hk _ oo ho _;subst ho';have hu:∀ w,(underlying t).run P w=.ok (.slice elem) w:=fun w=>by simp[underlying,SlT.under (P:=P) (t:=t)]
 have hb:((0:Int)≤(l:Int)∧(l:Int)≤(len:Int)):=by omega
 simp only[execOp,ho,hk.eval hx,Option.map_none,Option.map_some,hk.eval hy,Instr.sliceAt,Sem.run_bind,hu,Result.andThen_ok,Instr.slice,Sem.run_pure,Instr.sliceBounds,Instr.sliceBound,asIntOf,if_pos hb,SlT.size (P:=P) (t:=t),Int.toNat_natCast];have hne:¬ cap=l:=by omega
 simp[hne,vO]
theorem kX {t elem size ty len cap:Nat} {p:Option Addr} {x:Operand} [SlT P t elem size] (hx:ev K x=some (.slice p len cap)):Does P w0 gs K L (.call { callee:=.builtin .cap,args:=#[x],argTypes:=#[t] }) ty (.int .i64 (cap:Int)):=by
 intro a w hk _ oo ho _;obtain⟨dst,op,ty',pos,after,guard⟩:=oo;subst ho;have hu:∀ w,(underlying t).run P w=.ok (.slice elem) w:=fun w=>by simp[underlying,SlT.under (P:=P) (t:=t)]
 rw[yL hk (ak:=[.slice p len cap]) (by simp[evs,hx]),builtin_cap];simp[Builtin.cap_,hu,goInt]
theorem aaa {ty:Nat} {ats:Array TypeId} {x y:Operand} {k k' : IntKind} {m n r:Int} (hx:ev K x=some (.int k m)) (hy:ev K y=some (.int k' n)) (hr:(if n > m then n else m)=r):Does P w0 gs K L (.call { callee:=.builtin .max,args:=#[x,y],argTypes:=ats }) ty (.int k r):=by
 intro a w hk _ oo ho _;obtain⟨dst,op,ty',pos,after,guard⟩:=oo;subst ho;subst hr;rw[yL hk (ak:=[.int k m,.int k' n]) (by simp[evs,hx,hy]),builtin_max];simp[run_max_int2]
theorem ut {ty:Nat} {ats:Array TypeId} {x y:Operand} {k k' : IntKind} {m n r:Int} (hx:ev K x=some (.int k m)) (hy:ev K y=some (.int k' n)) (hr:(if n<m then n else m)=r):Does P w0 gs K L (.call { callee:=.builtin .min,args:=#[x,y],argTypes:=ats }) ty (.int k r):=by
 intro a w hk _ oo ho _;obtain⟨dst,op,ty',pos,after,guard⟩:=oo;subst ho;subst hr;rw[yL hk (ak:=[.int k m,.int k' n]) (by simp[evs,hx,hy]),builtin_min];simp[run_min_int2]
end
end Sx
end
end Go.Proofs.YteibfbjpkjkejaaGreatDoor
