/- Part 49 of the proof. -/
import Derived.Test.YteibfbjpkjkejaaGreatDoorS47
set_option linter.unusedSimpArgs false
set_option linter.unusedVariables false
namespace Go.Proofs.YteibfbjpkjkejaaGreatDoor
section
open Go Go.RowKit Go.BigFrame
namespace Sx
theorem fJ {ep:Nat} {D:List (Dd × Dk)} {j:Nat} {H:List Nat} (h:H∈ddK ep D j):∃ y∈D,y.1.d=j∧ddH ep y.1=H:=by
 unfold ddK at h;obtain⟨y,hy,rfl⟩:=List.mem_map.1 h;obtain⟨h1,h2⟩:=List.mem_filter.1 hy;exact⟨y,h1,by simpa using h2,rfl⟩
theorem eH {ep:Nat} {D:List (Dd × Dk)} {j:Nat} (h:∀ y∈D,y.1.d≠j):ddK ep D j=[]:=by
 unfold ddK;rw[List.map_eq_nil_iff,List.filter_eq_nil_iff];intro y hy;have:=h y hy;simpa using this
theorem sP {α β:Type} {f:α→β}:∀ {l:List α},(l.map f).Nodup→∀ {a b:α},a∈l→b∈l→f a=f b→a=b
 | [],_,_,_,h,_,_=>by cases h
 | x::l,hn,a,b,ha,hb,e=>by
  rw[List.map_cons,List.nodup_cons] at hn;obtain⟨h1,h2⟩:=hn
  rcases List.mem_cons.1 ha with ea|ha
  ·rcases List.mem_cons.1 hb with eb|hb
   ·rw[ea,eb]
   ·rw[ea] at e;exact absurd (List.mem_map.2 ⟨b,hb,e.symm⟩) h1
  ·rcases List.mem_cons.1 hb with eb|hb
   ·rw[eb] at e;exact absurd (List.mem_map.2 ⟨a,ha,e⟩) h1
   ·exact sP h2 ha hb e
theorem aby {ep:Nat} {D:List (Dd × Dk)} (hd:(D.map fun x=>ddH ep x.1).Nodup) {j:Nat} {H:List Nat} (h:H∈ddK ep D j):iZ ep D H=some j:=by
 obtain⟨y,hy,rfl,rfl⟩:=fJ h;unfold iZ;cases hf:D.find? (fun x=>ddH ep x.1 == ddH ep y.1) with
 | none =>
  rw[List.find?_eq_none] at hf;exact absurd (hf y hy) (by simp)
 | some z =>
  have hz:=List.mem_of_find?_eq_some hf;have he:=List.find?_some hf;have:z=y:=sP hd hz hy (by simpa using he);rw[this];rfl
theorem oU {ep:Nat} {D:List (Dd × Dk)} (hd:(D.map fun x=>ddH ep x.1).Nodup):∀ (m j last:Nat),last<j→rk (iZ ep D) last ((List.range' j m).flatMap fun k=>(ddK ep D k).take 1)=true
 | 0,_,_,_=>rfl
 | m+1,j,last,h=>by
  rw[List.range'_succ,List.flatMap_cons];cases hk:ddK ep D j with
  | nil=>exact oU hd m (j+1) last (by omega)
  | cons H r =>
   have hf:=aby hd (j:=j) (H:=H) (by rw[hk];simp);show rk (iZ ep D) last (H::_)=true;rw[qb,hf];show (decide (last<j) && _)=true;rw[decide_eq_true h,Bool.true_and];exact oU hd m (j+1) j (by omega)
theorem bE {k:Pl} {lc:Nat→Nat} {D:List (Dd × Dk)} (hI:PlI k lc D):rk (iZ k.ep D) 0 (rK k.ep D)=true:=by
 unfold rK;rw[show List.range 8=0::List.range' 1 7 by decide,List.flatMap_cons,eH (fun y hy=>by have:=(hI.d1 y hy).1;omega)];exact oU hI.dist 7 1 0 (by omega)
def ae8 (D:List (Dd × Dk)) (n:Nat):Nat:=((List.range' 1 n).filter fun j=>D.any fun y=>y.1.d == j).length
theorem mj {ep:Nat} {D:List (Dd × Dk)}:∀ l:List Nat,(l.flatMap fun k=>(ddK ep D k).take 1).length=(l.filter fun j=>D.any fun y=>y.1.d == j).length
 | []=>rfl
 | j::l=>by
  rw[List.flatMap_cons,List.length_append,mj l]
  by_cases h:(D.any fun y=>y.1.d == j)=true
  ·rw[List.filter_cons_of_pos (p:=fun j=>D.any fun y=>y.1.d == j) h,List.length_cons];obtain⟨y,hy,hj⟩:=List.any_eq_true.1 h;have:0<(ddK ep D j).length:=by
    unfold ddK;rw[List.length_map];exact List.length_pos_iff.2 (List.ne_nil_of_mem (List.mem_filter.2 ⟨hy,hj⟩))
   rw[List.length_take];omega
  ·rw[List.filter_cons_of_neg (p:=fun j=>D.any fun y=>y.1.d == j) h];have:ddK ep D j=[]:=eH (fun y hy e=>h (List.any_eq_true.2 ⟨y,hy,by simpa using e⟩));rw[this];simp
theorem aM {k:Pl} {lc:Nat→Nat} {D:List (Dd × Dk)} (hI:PlI k lc D):(rK k.ep D).length=ae8 D k.N.length:=by
 have h7:=hI.n7;unfold rK;rw[mj];unfold ae8;have e:List.range 8=0::(List.range' 1 k.N.length++List.range' (1+k.N.length) (7 - k.N.length)):=by
  rw[List.range'_append_1,show k.N.length+(7 - k.N.length)=7 by omega];decide
 have hno:∀ j,(j=0∨k.N.length<j)→¬ (D.any fun y=>y.1.d == j)=true:=fun j hj h=>by
  obtain⟨y,hy,h1⟩:=List.any_eq_true.1 h;have:=hI.d1 y hy;have h2:y.1.d=j:=by simpa using h1
  omega
 rw[e,List.filter_cons_of_neg (p:=fun j=>D.any fun y=>y.1.d == j) (hno 0 (.inl rfl)),List.filter_append];have:(List.range' (1+k.N.length) (7 - k.N.length)).filter (fun j=>D.any fun y=>y.1.d == j)=[]:=by
  rw[List.filter_eq_nil_iff];intro j hj;obtain⟨h1,_⟩:=List.mem_range'_1.1 hj;exact hno j (.inr (by omega))
 rw[this,List.append_nil]
end Sx
end
end Go.Proofs.YteibfbjpkjkejaaGreatDoor
