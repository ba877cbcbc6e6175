/- Part 52 of the proof. -/
import Derived.Test.YteibfbjpkjkejaaGreatDoorM51
set_option linter.unusedSimpArgs false
set_option linter.unusedVariables false
set_option maxHeartbeats 8000000
namespace Go.Proofs.YteibfbjpkjkejaaGreatDoor
section
open Go Go.RowKit Go.BigFrame
namespace Sx
attribute [local irreducible] DQ DQS WC WO WX wd
theorem bh (e d:Nat) (v y pr:Value) (sC sS:Nat) (h1:v.oneCell'=true) (h2:y.oneCell'=true) (h3:pr.oneCell'=true):Fn Tryz.prog 11 [.pointer none,dlV e d v y pr sC sS] Tr (Is (.tuple #[.bool false,.int .i64 2])):=by
 have hT:=sP;refine Fn.enter Tryz.func11 rfl rfl rfl ?_;intro w hw
 repeat (first|refine Ta ?_|(refine Tm ?_;intro _)|refine WO.acallR (hc:=hT) (hR:=fun w1 hm=>trivial) (k:=?_)|refine Tc ?_|exact Tz)
 done
theorem jm:Fn Tryz.prog 15 [.pointer none] Tr (Is (.tuple #[.slice none 0 0,.bool false])):=by
 have hT:=sP;refine Fn.enter Tryz.func15 rfl rfl rfl ?_;intro w hw
 repeat (first|refine Ta ?_|(refine Tm ?_;intro _)|refine WO.acallR (hc:=hT) (hR:=fun w1 hm=>trivial) (k:=?_)|refine Tc ?_|exact Tz)
 done
theorem bf:Fn Tryz.prog 16 [.pointer none,.slice none 0 0] Tr (Is (.bool false)):=by
 have hT:=sP;refine Fn.enter Tryz.func16 rfl rfl rfl ?_;intro w hw
 repeat (first|refine Ta ?_|(refine Tm ?_;intro _)|refine WO.acallR (hc:=hT) (hR:=fun w1 hm=>trivial) (k:=?_)|refine Tc ?_|exact Tz)
 done
theorem cI:Fn Tryz.prog 12 [.pointer none] Tr (Is (.slice none 0 0)):=by
 have hT:=sP;refine Fn.enter Tryz.func12 rfl rfl rfl ?_;intro w hw
 repeat (first|refine Ta ?_|(refine Tm ?_;intro _)|refine WO.acallR (hc:=hT) (hR:=fun w1 hm=>trivial) (k:=?_)|refine Tc ?_|exact Tz)
 done
theorem ac6 {p q g h:Nat} {f sec:Int} {N:List (Nat × Nat)} {ep:Nat} {b:Bool} (hb:b=false) {v:Value} {M:List Ent} (h:NwP p q g h f sec N ep b v M):Is (.tuple #[.pointer none,.int .i64 1]) v M:=h.2 hb
theorem dG:Fn Tryz.prog 8 [stV 0 0 0 0 0 0 (.slice none 0 0),.int .u64 1] Tr (Is (.tuple #[.pointer none,.int .i64 1])) :=
 (fI 0 0 0 0 0 0 none 0 [] 1 (by decide) (by decide) (by decide) (by decide) (fun k hk=>by simp at hk) (by simp) (by decide) (by decide) (by decide) (by decide) (by decide)).weak (fun w _=>⟨none,0,rfl,.inl ⟨rfl,rfl⟩⟩) (fun v N hv=>ac6 (by decide +kernel) hv)
theorem ab0:Fn Tryz.prog 7 [] Tr (Is (.bool true)):=by
 have h1:=dG;have h2:=bh 0 0 (.slice none 0 0) (.slice none 0 0) (.slice none 0 0) 0 0 rfl rfl rfl;have h3:=jm;have h4:=bf;have h5:=cI;refine Fn.enter Tryz.func7 rfl rfl rfl ?_;intro w hw
 repeat (first|refine Ta ?_|(refine Tm ?_;intro _)|refine WO.acall (hc:=h1) (k:=?_)|refine WO.acall (hc:=h2) (k:=?_)|refine WO.acall (hc:=h3) (k:=?_)|refine WO.acall (hc:=h4) (k:=?_)|refine WO.acall (hc:=h5) (k:=?_)|refine Tc ?_|exact Tz)
 done
structure Pl where
 P:Nat
 gM:Nat
 gN:Nat
 cN:Nat
 p:Nat
 q:Nat
 g:Nat
 h:Nat
 ep:Nat
 f:Int
 sec:Int
 N:List (Nat × Nat)
def Pl.ns (k:Pl):Value:=.slice (some ⟨k.gN,0,none⟩) k.N.length k.cN
def sf (k:Pl) (lg lc:Nat→Nat) (D:List (Dd × Dk)):List Ent :=
 ⟨k.P,84,plC k.p k.q k.g k.h k.f k.sec k.ns k.ep k.gM (lsV lg lc (ddK k.ep D))⟩::mpE k.gM (ddM k.ep D)::⟨k.gN,78,k.N.flatMap yv++mkz (k.cN - k.N.length) (vh 0 0)⟩::(lsL lg lc (ddK k.ep D)++ddR D)
structure PlI (k:Pl) (lc:Nat→Nat) (D:List (Dd × Dk)):Prop where
 fit:∀ x∈D,jq x.1
 d1:∀ x∈D,0<x.1.d∧x.1.d≤k.N.length
 dist:(D.map fun x=>ddH k.ep x.1).Nodup
 room:∀ j,0<(ddK k.ep D j).length→(ddK k.ep D j).length≤lc j∧lc j<9223372036854775808
 n7:k.N.length≤7
 small:D.length≤1000
theorem ja (ep:Nat) (x:Dd):∀ b∈ddH ep x,b<256:=qF _ _
theorem pA (ep:Nat) (x:Dd):(ddH ep x).length=32:=y7 _ _
theorem oT {α β:Type} {f:α→β} (hf:∀ a b,f a=f b→a=b):∀ {l:List α},l.Nodup→(l.map f).Nodup
 | [],_=>by simp
 | a::l,h=>by
  rw[List.nodup_cons] at h;rw[List.map_cons,List.nodup_cons];refine⟨fun hm=>?_,oT hf h.2⟩;obtain⟨b,hb,e⟩:=List.mem_map.1 hm;rw[← hf _ _ e] at h;exact h.1 hb
theorem py {ep:Nat} {D:List (Dd × Dk)} (h:(D.map fun x=>ddH ep x.1).Nodup):sF Tryz.prog 60 (ddM ep D):=by
 refine⟨fun x hx=>?_,?_⟩
 ·obtain⟨y,_,rfl⟩:=List.mem_map.1 hx;exact sR _ (ja ep y.1) (pA ep y.1)
 ·have e:(ddM ep D).map Prod.fst=(D.map fun x=>ddH ep x.1).map hsV:=by unfold ddM;rw[List.map_map,List.map_map];rfl
  rw[e];exact oT (fun a b hab=>gU hab) h
abbrev PxT (D:List (Dd × Dk)):Type:={ x:Nat × (Dd × Dk) // x.2∈D }
def qv {D:List (Dd × Dk)}:Nat→(l:List (Dd × Dk))→(∀ x∈l,x∈D)→List (PxT D)
 | _,[],_=>[]
 | i,x::l,h=>⟨(i,x),h x (by simp)⟩::qv (i+1) l (fun y hy=>h y (by simp[hy]))
theorem nS {D:List (Dd × Dk)}:∀ (i:Nat) (l:List (Dd × Dk)) (h:∀ x∈l,x∈D),(qv i l h).length=l.length
 | _,[],_=>rfl
 | i,x::l,h=>by rw[qv,List.length_cons,nS,List.length_cons]
theorem nb {D:List (Dd × Dk)}:∀ (i:Nat) (l:List (Dd × Dk)) (h:∀ x∈l,x∈D) (j:Nat) (y:PxT D),(qv i l h)[j]?=some y→y.1.1=i+j∧l[j]?=some y.1.2
 | _,[],_,j,y,e=>by simp[qv] at e
 | i,x::l,h,0,y,e=>by
  rw[qv,List.getElem?_cons_zero] at e;cases e;exact⟨rfl,rfl⟩
 | i,x::l,h,j+1,y,e=>by
  rw[qv,List.getElem?_cons_succ] at e;obtain⟨h1,h2⟩:=nb (i+1) l _ j y e;exact⟨by omega,by simpa using h2⟩
theorem nI {D:List (Dd × Dk)} {β:Type} (F:Dd × Dk→β):∀ (i:Nat) (l:List (Dd × Dk)) (h:∀ x∈l,x∈D),(qv i l h).map (fun y=>F y.1.2)=l.map F
 | _,[],_=>rfl
 | i,x::l,h=>by rw[qv,List.map_cons,List.map_cons,nI F (i+1)]
def oD (D:List (Dd × Dk)) (k:Nat):List (PxT D):=qv 0 (D.filter fun x=>x.1.d == k) (fun x hx=>(List.mem_filter.1 hx).1)
theorem qa {D:List (Dd × Dk)} {ep k:Nat}:(oD D k).length=(ddK ep D k).length:=by unfold oD ddK;rw[nS,List.length_map]
def aaB (D:List (Dd × Dk)):List Dd:=(List.range 8).flatMap fun k=>(D.filter fun x=>x.1.d == k).map Prod.fst
theorem adl (D:List (Dd × Dk)):(qe (oD D) 8).map (fun y=>y.1.2.1)=aaB D:=by
 unfold qe aaB;rw[List.map_flatMap];congr 1;funext k;exact nI Prod.fst _ _ _
theorem pF {α:Type} (key:α→Nat):∀ (D:List α),(∀ x∈D,key x<8)→((List.range 8).flatMap fun k=>D.filter fun x=>key x == k).length=D.length
 | [],_=>by simp[List.range_succ_eq_map]
 | x::D,h=>by
  have ih:=pF key D (fun y hy=>h y (by simp[hy]));have hx:=h x (by simp);have e:∀ k,(List.filter (fun x=>key x == k) (x::D)).length=(List.filter (fun x=>key x == k) D).length+(if key x=k then 1 else 0):=fun k=>by
   by_cases hk:key x=k
   ·rw[List.filter_cons_of_pos (by simpa using hk),if_pos hk];simp
   ·rw[List.filter_cons_of_neg (by simpa using hk),if_neg hk];simp
  rw[List.length_flatMap] at ih ⊢;simp only[List.range_succ_eq_map,List.range_zero,List.map_cons,List.map_nil,List.sum_cons,List.sum_nil,e] at ih ⊢;rw[List.length_cons];have:key x=0∨key x=1∨key x=2∨key x=3∨key x=4∨key x=5∨key x=6∨key x=7:=by omega
  rcases this with h|h|h|h|h|h|h|h<;>simp[h] at ih ⊢<;>omega
def PlR (k:Pl) (lg lc:Nat→Nat) (D:List (Dd × Dk)) (w:World):Prop:=∀ e∈sf k lg lc D,e.ok w
section
variable {k:Pl} {lg lc:Nat→Nat} {D:List (Dd × Dk)} {w:World}
theorem PlR.P (h:PlR k lg lc D w):Seg w k.P 0 (plC k.p k.q k.g k.h k.f k.sec k.ns k.ep k.gM (lsV lg lc (ddK k.ep D))):=by
 have:=(h ⟨k.P,84,plC k.p k.q k.g k.h k.f k.sec k.ns k.ep k.gM (lsV lg lc (ddK k.ep D))⟩ (List.mem_cons_self ..)).seg 0;simpa using this
theorem PlR.M (h:PlR k lg lc D w):(mpE k.gM (ddM k.ep D)).ok w:=h _ (List.mem_cons_of_mem _ (List.mem_cons_self ..))
theorem PlR.N (h:PlR k lg lc D w):RdF yv k.ns k.N w:=by
 have:=(h ⟨k.gN,78,k.N.flatMap yv++mkz (k.cN - k.N.length) (vh 0 0)⟩ (List.mem_cons_of_mem _ (List.mem_cons_of_mem _ (List.mem_cons_self ..)))).seg 0;rw[List.drop_zero] at this;exact RdF.ownO this rfl
theorem gJ {j:Nat} (hj:j<8) (hp:0<(ddK k.ep D j).length):(⟨lg j,60,(ddK k.ep D j).flatMap byC++mkz (lc j - (ddK k.ep D j).length) (byC (List.replicate 32 0))⟩ : Ent)∈sf k lg lc D:=by
 refine List.mem_cons_of_mem _ (List.mem_cons_of_mem _ (List.mem_cons_of_mem _ (List.mem_append_left _ ?_)));refine List.mem_flatMap.2 ⟨j,List.mem_range.2 hj,?_⟩;unfold lsE;rw[uf hp];exact List.mem_singleton.2 rfl
theorem PlR.row (h:PlR k lg lc D w) {j i:Nat} {H:List Nat} (hj:j<8) (hi:(ddK k.ep D j)[i]?=some H):Seg w (lg j) (0+i*32) (byC H):=by
 have hp:0<(ddK k.ep D j).length:=by have:=(List.getElem?_eq_some_iff.1 hi).1;omega
 have:=(h _ (gJ hj hp)).seg 0;rw[List.drop_zero] at this;refine this.sub (nQ (k:=32) (fun x hx=>?_) hi);unfold ddK at hx;obtain⟨y,_,rfl⟩:=List.mem_map.1 hx;rw[zh];exact pA _ _
theorem PlR.lt (h:PlR k lg lc D w) {j:Nat} (hj:j<8) (hp:0<(ddK k.ep D j).length):lg j<w.heap.size:=(h _ (gJ hj hp)).lt
theorem aaX {x:Dd × Dk} (hx:x∈D) {e:Ent} (he:e∈ddL x.1 x.2):e∈sf k lg lc D :=
 List.mem_cons_of_mem _ (List.mem_cons_of_mem _ (List.mem_cons_of_mem _ (List.mem_append_right _ (List.mem_flatMap.2 ⟨x,hx,he⟩))))
theorem abU.of {x:Dd} {b:Dk} (h:∀ e∈ddL x b,e.ok w):abU w x b:=by
 have h1:=(h ⟨b.v,24,x.V.flatMap zb++mkz b.rv (zb 0)⟩ (by simp[ddL])).seg 0;have h2:=(h ⟨b.y,24,x.Y.flatMap zb++mkz b.ry (zb 0)⟩ (by simp[ddL])).seg 0;have h3:=(h ⟨b.p,96,x.P.flatMap pfC++mkz b.rp (vh 0 0)⟩ (by simp[ddL])).seg 0;rw[List.drop_zero] at h1 h2 h3;exact⟨RdF.ownO h1 rfl,RdF.ownO h2 rfl,RdF.ownO h3 rfl⟩
theorem PlR.dd (h:PlR k lg lc D w) {x:Dd × Dk} (hx:x∈D):abU w x.1 x.2:=abU.of fun e he=>h e (aaX hx he)
end
section
variable (k:Pl) (lg lc:Nat→Nat) (D:List (Dd × Dk))
def pkD (j:Nat):Option Addr:=if (ddK k.ep D j).length=0 then none else some ⟨lg j,0,none⟩
def ckD (j:Nat):Nat:=if (ddK k.ep D j).length=0 then 0 else lc j
def bsD:List Nat:=k.P::((List.range 8).filter fun j=>decide (0<(ddK k.ep D j).length)).map lg
theorem aek (j:Nat):lsV lg lc (ddK k.ep D) j=.slice (pkD k lg D j) (oD D j).length (ckD k lc D j):=by
 rw[qa (ep:=k.ep)];unfold lsV pkD ckD
 rcases Nat.eq_zero_or_pos (ddK k.ep D j).length with h|h
 ·rw[h];rfl
 ·rw[ut h,if_neg (by omega),if_neg (by omega)]
theorem aeQ (j:Nat) (hj:j<8) (hne:oD D j≠[]):pkD k lg D j=some ⟨lg j,0,none⟩∧lg j∈bsD k lg D:=by
 have hp:0<(ddK k.ep D j).length:=by rw[← qa];exact List.length_pos_iff.2 hne
 unfold pkD bsD;rw[if_neg (by omega)];exact⟨rfl,List.mem_cons_of_mem _ (List.mem_map.2 ⟨j,List.mem_filter.2 ⟨List.mem_range.2 hj,by simpa using hp⟩,rfl⟩)⟩
theorem aej {w:World} (h:PlR k lg lc D w):∀ b∈bsD k lg D,b<w.heap.size:=by
 intro b hb;unfold bsD at hb
 rcases List.mem_cons.1 hb with rfl|hb
 ·exact (h ⟨k.P,84,_⟩ (List.mem_cons_self ..)).lt
 ·obtain⟨j,hj,rfl⟩:=List.mem_map.1 hb;obtain⟨h1,h2⟩:=List.mem_filter.1 hj;exact h.lt (List.mem_range.1 h1) (by simpa using h2)
theorem ng {j i:Nat} {y:PxT D} (h:(oD D j)[i]?=some y):y.1.1=i∧(ddK k.ep D j)[i]?=some (ddH k.ep y.1.2.1):=by
 obtain⟨h1,h2⟩:=nb 0 _ _ i y h;refine⟨by omega,?_⟩;unfold ddK;rw[List.getElem?_map,h2];rfl
theorem mU (hI:PlI k lc D) (j:Nat):(oD D j).length<1000000:=by
 rw[qa (ep:=k.ep)];unfold ddK;rw[List.length_map];have:=List.length_filter_le (fun x:Dd × Dk=>x.1.d == j) D;have:=hI.small;omega
theorem iC (hI:PlI k lc D):(qe (oD D) 8).length<10000000:=by
 have h1:=congrArg List.length (adl D);rw[List.length_map] at h1;rw[h1];have h2:=pF (fun x:Dd × Dk=>x.1.d) D (fun x hx=>by have:=(hI.d1 x hx).2;have:=hI.n7;omega);have:(aaB D).length=D.length:=by
  rw[← h2];unfold aaB;rw[List.length_flatMap,List.length_flatMap];simp
 have:=hI.small;omega
theorem bG (hI:PlI k lc D):(aaB D).length=D.length:=by
 have h2:=pF (fun x:Dd × Dk=>x.1.d) D (fun x hx=>by have:=(hI.d1 x hx).2;have:=hI.n7;omega);rw[← h2];unfold aaB;rw[List.length_flatMap,List.length_flatMap];simp
theorem adP (hI:PlI k lc D) :
  Fn Tryz.prog 12 [pt k.P] (PlR k lg lc D) (AlP k.ep (aaB D)):=by
 have h:=aaY k.p k.q k.g k.h k.f k.sec k.ns k.ep k.gM k.P (lsV lg lc (ddK k.ep D)) (ddM k.ep D) (α:=PxT D) (fun y=>y.1.1) (fun y=>ddH k.ep y.1.2.1) (fun y=>y.1.2) (oD D) (pkD k lg D) lg (ckD k lc D) (bsD k lg D) (List.mem_cons_self ..)
  (fun j _=>aek k lg lc D j) (mU k lc D hI) (iC k lc D hI) (fun x=>ja _ _) (fun x=>pA _ _) (aeQ k lg D) (fun j i x _ hx=>(ng k D hx).1)
  (py hI.dist) (fun x=>List.mem_map.2 ⟨x.1.2,x.2,rfl⟩) (fun x=>hI.fit _ x.2)
 rw[adl] at h;exact h.weak (fun w hw=>⟨hw.P,fun j i x hj hx=>hw.row hj (ng k D hx).2,aej k lg lc D hw,hw.M,fun x=>hw.dd x.2⟩) (fun v N hv=>hv)
end
theorem FnL.frame {P:Program} {f:FuncId} {args:List Value} {M R L:List Ent} {Rq Rq' : World→Prop} {post post' : Value→List Ent→Prop} (h:FnL P f args M Rq post) (hpm:L.Perm (M++R)) (hR:∀ w,(∀ e∈L,e.ok w)→Rq' w→Rq w)
  (hp:∀ v N,post v N→∃ N',(N++R).Perm N'∧post' v N'):FnL P f args L Rq' post':=by
 intro w hok hnd hw;have h0:Me w (L.map Ent.g) L w:=⟨.refl _ _,hok,fun e he=>.inr (List.mem_map.2 ⟨e,he,rfl⟩),hnd⟩;have h1:=h0.perm hpm;have hn1:=h1.nodup;rw[List.map_append,List.nodup_append] at hn1;refine (h w (fun e he=>h1.ok e (List.mem_append_left _ he)) hn1.1 (hR w hok hw)).mono ?_;rintro e w' ⟨v,N,rfl,hm,hq⟩;obtain⟨N',h2,h3⟩:=hp v N hq;exact⟨v,N',rfl,(h1.callL hm).perm h2,h3⟩
theorem oM {f:Nat→List Ent} {d:Nat}:∀ {l:List Nat},l.Nodup→d∈l→(l.flatMap f).Perm (f d++(l.filter fun x=>!(x == d)).flatMap f)
 | [],_,h=>by cases h
 | a::l,hn,h=>by
  rw[List.nodup_cons] at hn
  by_cases e:a=d
  ·subst e;have:(a::l).filter (fun x=>!(x == a))=l:=by
    rw[List.filter_cons_of_neg (by simp)];exact List.filter_eq_self.2 (fun x hx=>by
     have:x≠a:=fun e=>hn.1 (e ▸ hx);simpa using this)
   rw[this];exact .refl _
  ·have hd:d∈l:=(List.mem_cons.1 h).resolve_left (fun h=>e h.symm);have ih:=oM (f:=f) hn.2 hd;rw[List.filter_cons_of_pos (by simpa using e),List.flatMap_cons,List.flatMap_cons];refine (List.Perm.append_left _ ih).trans ?_;rw[← List.append_assoc,← List.append_assoc];exact List.Perm.append_right _ List.perm_append_comm
def bW (lg lc:Nat→Nat) (hk:Nat→List (List Nat)) (d:Nat):List Ent:=((List.range 8).filter fun x=>!(x == d)).flatMap (lsE lg lc hk)
theorem kS (lg lc:Nat→Nat) (hk:Nat→List (List Nat)) {d:Nat} (h:d<8):(lsL lg lc hk).Perm (lsE lg lc hk d++bW lg lc hk d):=oM List.nodup_range (List.mem_range.2 h)
theorem pc {α β:Type} {f g:α→List β}:∀ {l:List α},(∀ x∈l,f x=g x)→l.flatMap f=l.flatMap g
 | [],_=>rfl
 | a::l,h=>by rw[List.flatMap_cons,List.flatMap_cons,h a (by simp),pc (fun x hx=>h x (by simp[hx]))]
theorem abc {lg lc lg' lc' : Nat→Nat} {hk hk' : Nat→List (List Nat)} {d:Nat} (h:∀ j,j≠d→lg' j=lg j∧lc' j=lc j∧hk' j=hk j):bW lg' lc' hk' d=bW lg lc hk d:=by
 unfold bW;refine pc ?_;intro j hj;have hj' : j≠d:=by have:=(List.mem_filter.1 hj).2;simpa using this
 obtain⟨h1,h2,h3⟩:=h j hj';unfold lsE;rw[h1,h2,h3]
theorem kc (ep:Nat) (D:List (Dd × Dk)) (x:Dd × Dk) (j:Nat):ddK ep (D++[x]) j=ddK ep D j++(if x.1.d=j then [ddH ep x.1] else []):=by
 unfold ddK;rw[List.filter_append,List.map_append];congr 1
 by_cases h:x.1.d=j
 ·rw[if_pos h,List.filter_cons_of_pos (by simpa using h)];simp
 ·rw[if_neg h,List.filter_cons_of_neg (by simpa using h)];simp
structure aaQ (x:Dd):Prop where
 v:∀ a∈x.V,a<zd
 y:∀ a∈x.Y,a<zd
 p:ym x.P
 c:x.c<zd
 s:x.s<zd
structure abB (k:Pl):Prop where
 p:k.p<zd
 q:k.q<zd
 g:k.g<zd
 h:k.h<zd
 N:ym k.N
 f1 : -9223372036854775808≤k.f
 f2:k.f≤9223372036854775807
 s1 : -9223372036854775808≤k.sec
 s2:k.sec≤9223372036854775807
def ckP (k:Pl) (x:Dd):Option Int:=ckE k.p k.q k.g k.h k.f k.sec k.N k.ep x.d x.V x.Y x.P x.c x.s
section
variable (k:Pl) (lg lc:Nat→Nat) (D:List (Dd × Dk)) (x:Dd) (pV pY pP:Option Addr) (cV cY cP:Nat)
abbrev acr (ep:Nat) (x:Dd) (pV pY pP:Option Addr) (cV cY cP:Nat):Value:=dlV ep x.d (.slice pV x.V.length cV) (.slice pY x.Y.length cY) (.slice pP x.P.length cP) x.c x.s
structure adT (x:Dd) (pV pY pP:Option Addr) (cV cY cP:Nat) (w:World):Prop where
 v:RdF zb (.slice pV x.V.length cV) x.V w
 y:RdF zb (.slice pY x.Y.length cY) x.Y w
 p:RdF pfC (.slice pP x.P.length cP) x.P w
theorem adT.of {x:Dd} {b:Dk} {cV cY cP:Nat} {w:World} (h:∀ e∈ddL x b,e.ok w):adT x (some ⟨b.v,0,none⟩) (some ⟨b.y,0,none⟩) (some ⟨b.p,0,none⟩) cV cY cP w:=by
 have h1:=(h ⟨b.v,24,x.V.flatMap zb++mkz b.rv (zb 0)⟩ (by simp[ddL])).seg 0;have h2:=(h ⟨b.y,24,x.Y.flatMap zb++mkz b.ry (zb 0)⟩ (by simp[ddL])).seg 0;have h3:=(h ⟨b.p,96,x.P.flatMap pfC++mkz b.rp (vh 0 0)⟩ (by simp[ddL])).seg 0;rw[List.drop_zero] at h1 h2 h3;exact⟨RdF.ownO h1 rfl,RdF.ownO h2 rfl,RdF.ownO h3 rfl⟩
theorem aat (e:Nat) (hne:e≠k.ep):Fn Tryz.prog 11 [pt k.P,acr e x pV pY pP cV cY cP] (PlR k lg lc D) (Is (.tuple #[.bool false,.int .i64 1])) :=
 (abG k.p k.q k.g k.h k.f k.sec (some ⟨k.gN,0,none⟩) k.cN k.N k.ep k.gM k.P (lsV lg lc (ddK k.ep D)) e x.d x.c x.s pV pY pP cV cY cP x.V x.Y x.P hne).weak (fun w hw=>hw.P) (fun _ _ h=>h)
theorem aeD (hn:∀ y∈D,ddH k.ep y.1≠ddH k.ep x):∀ u,(hsV (ddH k.ep x),u) ∉ ddM k.ep D:=fun u hu=>by
 obtain⟨y,hy,e⟩:=List.mem_map.1 hu;exact hn y hy (gU (Prod.mk.inj e).1)
theorem jd (hK:abB k) (hI:PlI k lc D) (hx:jq x) (hxn:aaQ x) (hd:x.d<256) (hn:∀ y∈D,ddH k.ep y.1≠ddH k.ep x) {er:Int} (hne:er≠0) (he:ckP k x=some er) :
  Fn Tryz.prog 11 [pt k.P,acr k.ep x pV pY pP cV cY cP] (fun w=>PlR k lg lc D w∧adT x pV pY pP cV cY cP w∧qp w) (Is (.tuple #[.bool false,.int .i64 er])) :=
 (d6 k.p k.q k.g k.h k.f k.sec (some ⟨k.gN,0,none⟩) k.cN k.N k.ep k.gM k.P (lsV lg lc (ddK k.ep D)) x.d x.c x.s pV pY pP cV cY cP x.V x.Y x.P (ddM k.ep D) (ja k.ep x) hx.v hx.y hx.p hx.vl hx.yl hx.pl hd (py hI.dist) hne (aeD k D x hn) he
  hK.p hK.q hK.g hK.h hK.N (by have:=hI.n7;omega) hK.f1 hK.f2 hK.s1 hK.s2 hxn.v hxn.y hxn.p hxn.c hxn.s).weak
  (fun w hw=>⟨hw.1.P,hw.1.M,hw.2.1.v,hw.2.1.y,hw.2.1.p,hw.1.N,hw.2.2⟩) (fun _ _ h=>h)
theorem abj (b0:Dk) (hK:abB k) (hI:PlI k lc D) (hx:jq x) (hxn:aaQ x) (hd:0<x.d∧x.d≤k.N.length) (hn:∀ y∈D,ddH k.ep y.1≠ddH k.ep x) (he:ckP k x=none) (hs:D.length+1≤1000) (h0:0 ∉ (sf k lg lc D).map Ent.g) :
  FnL Tryz.prog 11 [pt k.P,acr k.ep x (some ⟨b0.v,0,none⟩) (some ⟨b0.y,0,none⟩) (some ⟨b0.p,0,none⟩) cV cY cP] (sf k lg lc D++ddL x b0) qp
   (fun v N=>v=.tuple #[.bool true,.int .i64 0]∧∃ b lg' lc',N=sf k lg' lc' (D++[(x,b)])++ddL x b0∧PlI k lc' (D++[(x,b)])):=by
 intro w hok hnd hw;have hd8:x.d<8:=by have:=hI.n7;omega
 have hlD:(ddK k.ep D x.d).length≤1000:=by
  unfold ddK;rw[List.length_map];exact Nat.le_trans (List.length_filter_le _ _) hI.small
 have hpm:(sf k lg lc D++ddL x b0).Perm ((⟨k.P,84,plC k.p k.q k.g k.h k.f k.sec k.ns k.ep k.gM (lsV lg lc (ddK k.ep D))⟩::mpE k.gM (ddM k.ep D)::lsE lg lc (ddK k.ep D) x.d)++(⟨k.gN,78,k.N.flatMap yv++mkz (k.cN - k.N.length) (vh 0 0)⟩::(bW lg lc (ddK k.ep D) x.d++(ddR D++ddL x b0)))):=by
  unfold sf;simp only[List.cons_append,List.append_assoc];refine .cons _ (.cons _ ?_);refine List.Perm.trans (.cons _ (List.Perm.append_right _ (kS lg lc (ddK k.ep D) hd8))) ?_;rw[List.append_assoc];exact List.perm_middle.symm
 have hnd2:=(hpm.map Ent.g).nodup_iff.1 hnd;rw[List.map_append,List.nodup_append] at hnd2;have hfar:∀ a,(some (⟨b0.v,0,none⟩ : Addr)=some a∨some (⟨b0.y,0,none⟩ : Addr)=some a∨some (⟨b0.p,0,none⟩ : Addr)=some a∨some (⟨k.gN,0,none⟩ : Addr)=some a)→a.block ∉ (k.P::k.gM::(rwL 60 (lg x.d) ((ddK k.ep D x.d).flatMap byC) (mkz (lc x.d - (ddK k.ep D x.d).length) (byC (List.replicate 32 0))) (ddK k.ep D x.d).length).map Ent.g):=by
  intro a ha hm;have hm' : a.block∈(⟨k.P,84,plC k.p k.q k.g k.h k.f k.sec k.ns k.ep k.gM (lsV lg lc (ddK k.ep D))⟩::mpE k.gM (ddM k.ep D)::lsE lg lc (ddK k.ep D) x.d:List Ent).map Ent.g:=hm;refine hnd2.2.2 _ hm' a.block ?_ rfl
  rcases ha with e|e|e|e<;>cases e<;>simp[ddL]
 have h00:0 ∉ (k.P::k.gM::(rwL 60 (lg x.d) ((ddK k.ep D x.d).flatMap byC) (mkz (lc x.d - (ddK k.ep D x.d).length) (byC (List.replicate 32 0))) (ddK k.ep D x.d).length).map Ent.g):=by
  intro hm;refine h0 ?_;have hm' : 0∈(⟨k.P,84,plC k.p k.q k.g k.h k.f k.sec k.ns k.ep k.gM (lsV lg lc (ddK k.ep D))⟩::mpE k.gM (ddM k.ep D)::lsE lg lc (ddK k.ep D) x.d:List Ent).map Ent.g:=hm
  rcases List.mem_cons.1 hm with e|hm
  ·exact List.mem_map.2 ⟨_,List.mem_cons_self ..,e.symm⟩
  ·rcases List.mem_cons.1 hm with e|hm
   ·exact List.mem_map.2 ⟨_,List.mem_cons_of_mem _ (List.mem_cons_self ..),e.symm⟩
   ·obtain⟨e,he,h1⟩:=List.mem_map.1 hm;refine List.mem_map.2 ⟨e,List.mem_cons_of_mem _ (List.mem_cons_of_mem _ (List.mem_cons_of_mem _ (List.mem_append_left _ (List.mem_flatMap.2 ⟨x.d,List.mem_range.2 hd8,he⟩)))),h1⟩
 have h:=abx k.p k.q k.g k.h k.f k.sec (some ⟨k.gN,0,none⟩) k.cN k.N k.ep k.gM k.P (lsV lg lc (ddK k.ep D)) x (some ⟨b0.v,0,none⟩) (some ⟨b0.y,0,none⟩) (some ⟨b0.p,0,none⟩) cV cY cP (ddM k.ep D) (ddK k.ep D x.d) (lg x.d) (lc x.d)
  (ja k.ep x) hx.v hx.y hx.p hx.vl hx.yl hx.pl hd8 (py hI.dist) (aeD k D x hn) he hK.p hK.q hK.g hK.h hK.N (by have:=hI.n7;omega) hK.f1 hK.f2 hK.s1 hK.s2 hxn.v hxn.y hxn.p hxn.c hxn.s rfl hlD (hI.room x.d)
  (fun b hb=>by
   unfold ddK at hb;obtain⟨y,_,rfl⟩:=List.mem_map.1 hb;rw[zh];exact pA _ _) hfar h00
 refine FnL.frame h hpm (fun w1 h1 h2=>?_) (fun v N hv=>?_) w hok hnd hw
 ·have hA:=adT.of (x:=x) (b:=b0) (cV:=cV) (cY:=cY) (cP:=cP) (fun e he=>h1 e (List.mem_append_right _ he));have hR:PlR k lg lc D w1:=fun e he=>h1 e (List.mem_append_left _ he);exact⟨hA.v,hA.y,hA.p,hR.N,h2⟩
 ·obtain⟨g1,c1,b,rfl,r1,r2,rfl⟩:=hv;have hkd:ddK k.ep (D++[(x,b)]) x.d=ddK k.ep D x.d++[ddH k.ep x]:=by rw[kc,if_pos rfl]
  have hko:∀ j,j≠x.d→ddK k.ep (D++[(x,b)]) j=ddK k.ep D j:=fun j hj=>by rw[kc,if_neg (fun e=>hj e.symm),List.append_nil]
  have hl1:(ddK k.ep (D++[(x,b)]) x.d).length=(ddK k.ep D x.d).length+1:=by rw[hkd];simp
  refine⟨_,?_,rfl,b,(fun j=>if j=x.d then g1 else lg j),(fun j=>if j=x.d then c1 else lc j),rfl,?_⟩
  ·have hV:lsV (fun j=>if j=x.d then g1 else lg j) (fun j=>if j=x.d then c1 else lc j) (ddK k.ep (D++[(x,b)]))=aT (lsV lg lc (ddK k.ep D)) x.d (.slice (some ⟨g1,0,none⟩) ((ddK k.ep D x.d).length+1) c1):=by
    funext j;unfold aT lsV
    by_cases e:j=x.d
    ·subst e;dsimp only;rw[if_pos rfl,if_pos rfl,if_pos rfl,hl1];rfl
    ·dsimp only;rw[if_neg e,if_neg e,if_neg e,hko j e]
   have hM:ddM k.ep (D++[(x,b)])=ddM k.ep D++[(hsV (ddH k.ep x),ddV k.ep x b)]:=by unfold ddM;rw[List.map_append];rfl
   have hE:lsE (fun j=>if j=x.d then g1 else lg j) (fun j=>if j=x.d then c1 else lc j) (ddK k.ep (D++[(x,b)])) x.d=[⟨g1,60,(ddK k.ep D x.d++[ddH k.ep x]).flatMap byC++mkz (c1 - ((ddK k.ep D x.d).length+1)) (byC (List.replicate 32 0))⟩]:=by
    unfold lsE;dsimp only;rw[if_pos rfl,if_pos rfl,uf (by omega),hkd];simp
   have hO:bW (fun j=>if j=x.d then g1 else lg j) (fun j=>if j=x.d then c1 else lc j) (ddK k.ep (D++[(x,b)])) x.d=bW lg lc (ddK k.ep D) x.d:=abc (fun j hj=>⟨if_neg hj,if_neg hj,hko j hj⟩);unfold sf;rw[hV,hM,kX];simp only[List.cons_append,List.append_assoc];refine .cons _ (.cons _ ?_);have hls:=kS (fun j=>if j=x.d then g1 else lg j) (fun j=>if j=x.d then c1 else lc j) (ddK k.ep (D++[(x,b)])) hd8;rw[hE,hO] at hls;refine List.Perm.trans ?_ (.cons _ (List.Perm.append_right _ hls.symm));simp only[List.cons_append,List.append_assoc,List.nil_append];refine List.Perm.trans ?_ (List.Perm.swap _ _ _);refine .cons _ ?_;refine List.Perm.trans List.perm_middle ?_;refine .cons _ ?_;have hz:((ddL x b++(bW lg lc (ddK k.ep D) x.d++ddR D))++ddL x b0).Perm (((bW lg lc (ddK k.ep D) x.d++ddR D)++ddL x b)++ddL x b0):=List.Perm.append_right _ List.perm_append_comm;simpa only[List.append_assoc] using hz
  ·refine⟨fun y hy=>?_,fun y hy=>?_,?_,fun j hj=>?_,hI.n7,by rw[List.length_append];exact hs⟩
   ·rcases List.mem_append.1 hy with hy|hy
    ·exact hI.fit y hy
    ·rw[List.mem_singleton.1 hy];exact hx
   ·rcases List.mem_append.1 hy with hy|hy
    ·exact hI.d1 y hy
    ·rw[List.mem_singleton.1 hy];exact hd
   ·rw[List.map_append,List.nodup_append];refine⟨hI.dist,by simp,fun a ha b hb e=>?_⟩;obtain⟨y,hy,rfl⟩:=List.mem_map.1 ha;have:b=ddH k.ep x:=by simpa using hb
    exact hn y hy (e.trans this)
   ·by_cases e:j=x.d
    ·subst e;rw[hl1,if_pos rfl];exact⟨r1,r2⟩
    ·rw[hko j e] at hj ⊢;rw[if_neg e];exact hI.room j hj
end
end Sx
end
section
open Go Go.RowKit Go.BigFrame
namespace Sx
def dqX (p q g a F m:Nat) (ks:List (Nat × Nat)) (ep d:Nat) (P:List Nat):Dd :=
  ⟨dqD ks.length d,dVs p q g (dqL q P (F+m)) ks.length,dYs p q (dqL q P (F+m)) (csN p g a ks) ks.length,dPs p q g (dqL q P (F+m)) (csN p g a ks) ep (dqD ks.length d) (ks.getD (dqD ks.length d - 1) (0,0)).1 ks.length,
   (dSg p q g (dqL q P (F+m)) (csN p g a ks) ep (dqD ks.length d) (ks.getD (dqD ks.length d - 1) (0,0)).1 ks.length).1,(dSg p q g (dqL q P (F+m)) (csN p g a ks) ep (dqD ks.length d) (ks.getD (dqD ks.length d - 1) (0,0)).1 ks.length).2⟩
section
variable {p q g a F m:Nat} {ks:List (Nat × Nat)} {ep d:Nat} {P:List Nat}
theorem acb:(dqX p q g a F m ks ep d P).V.length=ks.length:=by simp[dqX,dVs]
theorem adm:(dqX p q g a F m ks ep d P).Y.length=ks.length:=by simp[dqX,dYs]
theorem adb:(dqX p q g a F m ks ep d P).P.length=ks.length:=by simp[dqX,dPs]
theorem aaL (hn:0<ks.length) (h7:ks.length≤7):jq (dqX p q g a F m ks ep d P):=by
 have h1:=acb (p:=p) (q:=q) (g:=g) (a:=a) (F:=F) (m:=m) (ks:=ks) (ep:=ep) (d:=d) (P:=P);have h2:=adm (p:=p) (q:=q) (g:=g) (a:=a) (F:=F) (m:=m) (ks:=ks) (ep:=ep) (d:=d) (P:=P);have h3:=adb (p:=p) (q:=q) (g:=g) (a:=a) (F:=F) (m:=m) (ks:=ks) (ep:=ep) (d:=d) (P:=P);exact⟨fun e=>by rw[e] at h1;simp at h1;omega,fun e=>by rw[e] at h2;simp at h2;omega,fun e=>by rw[e] at h3;simp at h3;omega,by omega,by omega,by omega⟩
theorem ab7 (hp:p<zd) (hq:q<zd) (h0:0<q):aaQ (dqX p q g a F m ks ep d P):=⟨acE hp,acX hp,adA hq h0,(aac hq h0).1,(aac hq h0).2⟩
theorem aey (hn:0<ks.length):0<(dqX p q g a F m ks ep d P).d∧(dqX p q g a F m ks ep d P).d≤(csN p g a ks).length:=by
 have:d%ks.length<ks.length:=Nat.mod_lt _ hn;rw[uj];show 0<1+d%ks.length∧1+d%ks.length≤ks.length;omega
theorem adv (hc:eR p q g a (F:Int) (m:Int) ks) (hn:0<ks.length):ckE p q g (exN p g a) (F:Int) (m:Int) (csN p g a ks) ep (dqX p q g a F m ks ep d P).d (dqX p q g a F m ks ep d P).V (dqX p q g a F m ks ep d P).Y (dqX p q g a F m ks ep d P).P (dqX p q g a F m ks ep d P).c (dqX p q g a F m ks ep d P).s=none:=by
 have h:=eU (ep:=ep) hc.pri (ny hc d P hn);rw[uj] at h;exact h
end
section
variable {p q g h:Nat} {f sec:Int} {N:List (Nat × Nat)} {ep d:Nat} {V Y:List Nat} {Pr:List (Nat × Nat)} {sC sS:Nat}
theorem ac1 (hk:ckE p q g h f sec N ep d V Y Pr sC sS=none) {s' : Nat} (hs:¬ s' < q):ckE p q g h f sec N ep d V Y Pr sC s'=some 10:=by
 have hb:ov p q g (N[d - 1]?.getD (0,0)).1 sC s' (yQ ep d V Y Pr)=false:=by
  unfold ov;have:zJ s' s' q=false:=by unfold zJ;rw[decide_eq_false hs];simp
  simp[this]
 unfold ckE at hk ⊢;rw[hb]
 split at hk
 ·rename_i h1;rw[if_pos h1]
  split at hk
  ·rename_i h2;rw[if_pos h2]
   split at hk
   ·rename_i h3;rw[if_pos h3]
    split at hk
    ·rename_i h4;rw[if_pos h4];rfl
    ·cases hk
   ·cases hk
  ·cases hk
 ·cases hk
theorem aaG (hk:ckE p q g h f sec N ep d V Y Pr sC sS=none) {V' : List Nat} (hz:0∈V') (hq:0<q):ckE p q g h f sec N ep d V' Y Pr sC sS=some 4:=by
 have hg:gIn p q 0=false:=by
  unfold gIn yw;simp
 have hb:shB p q N d V' Y Pr=false:=by
  have:V'.all (gIn p q)=false:=List.all_eq_false.2 ⟨0,hz,by rw[hg];simp⟩;unfold shB;rw[this];simp
 unfold ckE at hk ⊢;rw[hb]
 split at hk
 ·rename_i h1;rw[if_pos h1];rfl
 ·cases hk
end
section
variable (p q g h0 a:Nat) (F m:Nat) (pk:Option Addr) (ck:Nat) (ks:List (Nat × Nat)) (pt:Option Addr) (c:Nat) (ep d:Nat) (pP:Option Addr) (cP:Nat) (P:List Nat)
theorem aeb {a b c:Ent}:[a,b,c].Perm [c,b,a]:=List.reverse_perm [c,b,a]
theorem Fn.perm {Pg:Program} {f:FuncId} {args:List Value} {R:World→Prop} {post post' : Value→List Ent→Prop} (h:Fn Pg f args R post) (hp:∀ v N,post v N→∃ N',N.Perm N'∧post' v N'):Fn Pg f args R post' :=
 fun w hw=>(h w hw).mono fun _ _ ⟨v,N,h1,h2,h3,h4⟩=>by
  obtain⟨N',h5,h6⟩:=hp v N h4;exact⟨v,N',h1,h2,⟨fun e he=>h3.ok e (h5.mem_iff.2 he),fun e he=>h3.new e (h5.mem_iff.2 he),(h5.map Ent.g).nodup_iff.1 h3.nodup⟩,h6⟩
theorem aa1 (hc:eR p q g a (F:Int) (m:Int) ks) (hn:0<ks.length) (hp:p<zd) (hq:q<zd) (hg:g<zd) (hh0:h0<zd) (ha:a<zd) (hks:ym ks) (hP:∀ x∈P,x<4294967296) (hd:d<256) (hep:ep<18446744073709551616) :
  Fn Tryz.prog 9 [csV p q g h0 a (F:Int) (m:Int) (.slice pk ks.length ck),stV p q g (exN p g a) (F:Int) (m:Int) (.slice pt ks.length c),.int .u64 (ep:Int),dqV d (.slice pP P.length cP)]
   (fun w=>RdF yv (.slice pk ks.length ck) ks w∧RdF yv (.slice pt ks.length c) (csN p g a ks) w∧RdE aao (.slice pP P.length cP) P w)
   (Ex (fun s=>acr ep (dqX p q g a F m ks ep d P) (some ⟨s 0,0,none⟩) (some ⟨s 1,0,none⟩) (some ⟨s 2,0,none⟩) ks.length ks.length ks.length) (fun s=>ddL (dqX p q g a F m ks ep d P) ⟨s 0,s 1,s 2,0,0,0⟩) (fun _=>True)):=by
 refine Fn.perm (abe p q g h0 a F m pk ck ks pt c ep d pP cP P hc hn hp hq hg hh0 ha hks hP hd hep) ?_;rintro v N ⟨s,rfl,rfl,_⟩;refine⟨ddL (dqX p q g a F m ks ep d P) ⟨s 0,s 1,s 2,0,0,0⟩,?_,s,?_,rfl,trivial⟩
 ·simp only[ddL,mkz,List.replicate_zero,List.flatten_nil,List.append_nil,dqX];exact aeb
 ·unfold acr;rw[acb,adm,adb];rfl
end
section
variable {P:Program} {w0:World} {gs:List Nat} {n:Nat} {ops:List Oper} {Q:Exit→Act→World→Prop} {K:List (Nat × Value)} {L:List Ent} {rest:List Oper}
variable {d:Nat} {op:Op} {ty:TypeId} {pos:String} {after:Array Edge} {gd:Option (Nat × Bool)}
theorem WO.flip {A T:List Ent} (k:WO P w0 gs n ops Q K (A++T) rest):WO P w0 gs n ops Q K (T++A) rest:=fun a w h1 h2 h3 h4=>k a w h1 h2 h3 (h4.perm List.perm_append_comm)
theorem WO.callsT {f:FuncId} [Cal P f] {xs:Array Operand} {ats:Array TypeId} {ar:List Value} {M A T R0:List Ent} {Rq:World→Prop} {post:Value→List Ent→Prop} {post' : Value→List Ent→Prop} (hc:FnL P f ar (T++M) Rq post) (hq:∀ v N,post v N→∃ T',N=T'++M∧post' v T') (hL:L=A++T) (hA:Pks A M R0)
  (hR:∀ w,Mr w0 gs L w→Rq w) (k:∀ v T',post' v T'→WO P w0 gs n ops Q ((d,v)::K) (A++T') rest) (ha:evs K xs.toList=some ar:=by rfl) (hd:Nat.blt d n=true:=by rfl) (hw:wk ops K gd=some true:=by rfl) :
  WO P w0 gs n ops Q K L (⟨some d,.call { callee:=.value (.func f),args:=xs,argTypes:=ats },ty,pos,after,gd⟩::rest):=by
 intro a w hdf hsz hk hme;subst hL;refine wpList_step fun F hF=>?_;rw[if_pos (zU (o:=⟨some d,.call { callee:=.value (.func f),args:=xs,argTypes:=ats },ty,pos,after,gd⟩) hk hw)];have hd' : d<n:=by simpa [Nat.blt_eq] using hd
 have hpm:(A++T).Perm ((T++M)++R0):=by
  refine List.perm_append_comm.trans ?_;rw[List.append_assoc];exact List.Perm.append_left _ hA.perm
 have hme':=hme.perm hpm;have hnd:=hme'.nodup;rw[List.map_append,List.nodup_append] at hnd;unfold Oper.wp;have h1:=y9 (P:=P) (f:=f) (ty:=ty) (pos:=pos) (after:=after) (gd:=gd) (dst:=some d) (ats:=ats) (x:=.func f) (w:=w) (fs:=[]) (cs:=[]) hk rfl ha;simp only[List.nil_append,List.append_nil] at h1;rw[h1,Oper.upon_enter];refine (hc w (fun e he=>hme'.ok e (List.mem_append_left _ he)) hnd.1 (hR w hme.mr)).mono ?_;rintro e w' ⟨v,N,rfl,hm,hp⟩;obtain⟨T',rfl,hp'⟩:=hq v N hp;have h5:=hme'.callL hm;rw[List.append_assoc] at h5;have h6:(T'++(M++R0)).Perm (A++T'):=(List.Perm.append_left _ hA.perm.symm).trans List.perm_append_comm;exact hF _ _ (k v T' hp' _ _ (by rw[put_defers];exact hdf) (by rw[zR];exact hsz) (hk.put (by omega) v) (h5.perm h6))
end
structure aeP (k:Pl) (p q g h:Nat) (f sec:Int) (N:List (Nat × Nat)) (ep:Nat):Prop where
 p:k.p=p
 q:k.q=q
 g:k.g=g
 h:k.h=h
 f:k.f=f
 sec:k.sec=sec
 N:k.N=N
 ep:k.ep=ep
theorem aef (p q g h:Nat) (f sec:Int) (pt' : Option Addr) (c:Nat) (N:List (Nat × Nat)) (ep:Nat) (hp:p<zd) (hq:q<zd) (hg:g<zd) (hh:h<zd) (hN:ym N) (hNl:N.length≤100)
  (hf1 : -9223372036854775808≤f) (hf2:f≤9223372036854775807) (hs1 : -9223372036854775808≤sec) (hs2:sec≤9223372036854775807) (hep:ep<18446744073709551616) (hS:ug p q g h f sec N=true) :
  Fn Tryz.prog 8 [stV p q g h f sec (.slice pt' N.length c),.int .u64 (ep:Int)] (fun w=>RdF yv (.slice pt' N.length c) N w) (fun v M=>∃ k:Pl,v=.tuple #[Sx.pt k.P,.int .i64 0]∧M=sf k (fun _=>0) (fun _=>0) []∧aeP k p q g h f sec N ep):=by
 refine Fn.perm (fI p q g h f sec pt' c N ep hp hq hg hh hN hNl hf1 hf2 hs1 hs2 hep) ?_;rintro v M ⟨hv,_⟩;obtain⟨P,gN,cN,gM,rfl,rfl⟩:=hv hS;exact⟨_,(List.Perm.swap _ _ _).cons _,⟨P,gM,gN,cN,p,q,g,h,ep,f,sec,N⟩,rfl,rfl,rfl,rfl,rfl,rfl,rfl,rfl,rfl,rfl⟩
theorem PlI.nil (k:Pl) (h7:k.N.length≤7):PlI k (fun _=>0) []:=⟨by simp,by simp,by simp,fun j hj=>absurd hj (by simp[ddK]),h7,by simp⟩
inductive Tl:List Ent→List Ent→List Ent→Prop
 | here {T:List Ent}:Tl T [] T
 | cons {e:Ent} {L A T:List Ent}:Tl L A T→Tl (e::L) (e::A) T
 | app {X L A T:List Ent}:Tl L A T→Tl (X++L) (X++A) T
theorem Tl.eq {L A T:List Ent} (h:Tl L A T):L=A++T:=by
 induction h with
 | here=>rfl
 | cons _ ih=>rw[ih];rfl
 | app _ ih=>rw[ih,List.append_assoc]
theorem fP {α:Type} {f:α→List Value} {k:Nat} (hk:∀ x,(f x).length=k) {l:List α} {i:Nat} {x:α} {r:List Value} (hi:i<l.length):over (l.flatMap f++r) (i*k) (f x)=(l.set i x).flatMap f++r:=by
 have e:l.flatMap f=(l.take i).flatMap f++(l.drop i).flatMap f:=by rw[← List.flatMap_append,List.take_append_drop]
 have hl:((l.take i).flatMap f).length=i*k:=by rw[zC hk,List.length_take];congr 1;omega
 rw[List.drop_eq_getElem_cons hi,List.flatMap_cons] at e;rw[e,← hl,List.append_assoc,uY,List.set_eq_take_append_cons_drop,if_pos hi,List.flatMap_append,List.flatMap_cons,hk x,← hk l[i],List.append_assoc (f l[i]),List.drop_left];simp only[List.append_assoc]
theorem Fn.drop {Pg:Program} {f:FuncId} {args:List Value} {R:World→Prop} {post post' : Value→List Ent→Prop} (h:Fn Pg f args R post) (hp:∀ v N,post v N→post' v []):Fn Pg f args R post' :=
 fun w hw=>(h w hw).mono fun _ _ ⟨v,N,h1,h2,_,h4⟩=>⟨v,[],h1,h2,ij.nil _ _,hp v N h4⟩
theorem adN (k:Pl) (lg lc:Nat→Nat) (hI:PlI k lc []):Fn Tryz.prog 12 [pt k.P] (PlR k lg lc []) (Is (.slice none 0 0)) :=
 Fn.drop (adP k lg lc [] hI) (fun v N hv=>by
  obtain⟨g,c,E,h1,rfl,_⟩:=hv;have h2:E.map Prod.fst=[]:=h1.trans rfl;obtain rfl:=List.map_eq_nil_iff.1 h2;rfl)
theorem adI (k:Pl) (lg lc:Nat→Nat) (D:List (Dd × Dk)) (hI:PlI k lc D) (hp:0<D.length):Fn Tryz.prog 12 [pt k.P] (PlR k lg lc D) (Ex (fun s=>.slice (some ⟨s 0,0,none⟩) D.length D.length) (fun _=>[]) (fun _=>True)) :=
 Fn.drop (adP k lg lc D hI) (fun v N hv=>by
  obtain⟨g,c,E,h1,rfl,_⟩:=hv;have h2:=congrArg List.length h1;rw[List.length_map,bG k lc D hI] at h2;refine⟨fun _=>g,?_,rfl,trivial⟩;show agV g E.length E.length E.length=_;rw[h2,ut hp])
theorem aa7 {p q g x draw:Nat} {H:List Nat} (h0:0<q):(sgN p q g x draw H).2<q:=by
 unfold sgN okV;dsimp only;split
 ·exact Nat.mod_lt _ h0
 ·exact h0
theorem dC {n:Nat}:IntKind.u64.wrap ((n:Int)+1)=(((n+1)%18446744073709551616:Nat):Int):=by
 show ((n:Int)+1)%18446744073709551616=_;omega
theorem acz {l:List Nat} {j v:Nat} (h:l≠[]):l.set j v≠[]:=fun e=>h (by have:=congrArg List.length e;rw[List.length_set] at this;exact List.length_eq_zero_iff.1 this)
theorem aeg {l:List Nat} {j:Nat} (h:∀ a∈l,a<zd):∀ a∈l.set j 0,a<zd:=fun a ha=>by
 rcases List.mem_or_eq_of_mem_set ha with h1|h1
 ·exact h a h1
 ·rw[h1];decide
def jB (s b:Nat):Nat:=s+b*6277101735386680763835789423207666416102355444464034512896
theorem adF {s b:Nat} (hs:s<18446744073709551616) (hb:b<256):wd 0 (jB s b)=wd 0 s∧wd 1 (jB s b)=wd 1 s∧wd 2 (jB s b)=wd 2 s∧wd 3 (jB s b)=b:=by
 unfold jB;refine⟨?_,?_,?_,?_⟩<;>simp only[wd]<;>omega
theorem aaN {s b:Nat} (hs:s<18446744073709551616) (hb:b<256):jB s b<zd:=Nat.lt_of_lt_of_le (show jB s b<6277101735386680763835789423207666416102355444464034512896*257 by unfold jB;omega) (by decide +kernel)
theorem ce {ep d c s b:Nat} {v y pr:Value} (hs:s<18446744073709551616) (hb:b<256):over (dlC ep d v y pr c s) 12 [.int .u64 (b:Int)]=dlC ep d v y pr c (jB s b):=by
 obtain⟨h0,h1,h2,h3⟩:=adF hs hb;unfold dlC;rw[h0,h1,h2,h3];rfl
end Sx
end
end Go.Proofs.YteibfbjpkjkejaaGreatDoor
