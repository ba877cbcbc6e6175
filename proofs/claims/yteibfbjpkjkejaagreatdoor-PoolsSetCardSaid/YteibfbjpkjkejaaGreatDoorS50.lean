/- Part 50 of the proof. -/
import Derived.Test.YteibfbjpkjkejaaGreatDoorS48
import Derived.Test.YteibfbjpkjkejaaGreatDoorS49
set_option linter.unusedSimpArgs false
set_option linter.unusedVariables false
namespace Go.Proofs.YteibfbjpkjkejaaGreatDoor
section
open Go Go.RowKit Go.BigFrame
namespace Sx
theorem qe {F:List Nat→Option Nat}:∀ {l:List (List Nat)} {last:Nat},rk F last l=true→(∀ H∈l,∃ d,F H=some d∧last<d)∧List.Pairwise (fun a b=>∃ x y,F a=some x∧F b=some y∧x<y) l
 | [],_,_=>⟨fun _ h=>(by cases h),.nil⟩
 | H::l,last,h=>by
  rw[qb] at h;cases hf:F H with
  | none=>rw[hf] at h;cases h
  | some d =>
   rw[hf] at h;have h' : (decide (last<d) && rk F d l)=true:=h;rw[Bool.and_eq_true] at h';obtain⟨h1,h2⟩:=h';have h1:=of_decide_eq_true h1;obtain⟨h3,h4⟩:=qe h2;refine⟨fun G hG=>?_,.cons (fun G hG=>?_) h4⟩
   ·rcases List.mem_cons.1 hG with rfl|hG
    ·exact⟨d,hf,h1⟩
    ·obtain⟨e,e1,e2⟩:=h3 G hG;exact⟨e,e1,by omega⟩
   ·obtain⟨e,e1,e2⟩:=h3 G hG;exact⟨d,e,hf,e1,e2⟩
theorem fM {F:List Nat→Option Nat} {l:List (List Nat)} {k:Nat} {x:List Nat} (h:l[k]?=some x):rk F 0 (l.take (k+1)++[x]++l.drop (k+1))=false:=by
 cases hs:rk F 0 (l.take (k+1)++[x]++l.drop (k+1)) with
 | false=>rfl
 | true =>
  have hm:x∈l.take (k+1):=by rw[List.take_add_one,h];simp
  obtain⟨a,b,e1,e2,e3⟩:=(List.pairwise_append.1 (List.pairwise_append.1 (qe hs).2).1).2.2 x hm x (by simp);rw[e1] at e2;cases e2;omega
theorem eO {F:List Nat→Option Nat} {l:List (List Nat)} {k:Nat} {x:List Nat} (hx:F x=none) (hk:k<l.length):rk F 0 (l.set k x)=false:=by
 cases hs:rk F 0 (l.set k x) with
 | false=>rfl
 | true =>
  obtain⟨d,h1,_⟩:=(qe hs).1 x (List.mem_set hk x);rw[hx] at h1;cases h1
theorem ig {F:List Nat→Option Nat} {l:List (List Nat)} (h:rk F 0 l=true) (h2:2≤l.length):rk F 0 l.reverse=false:=by
 cases hs:rk F 0 l.reverse with
 | false=>rfl
 | true =>
  match l,h,h2,hs with
  | a::b::r,h,_,hs =>
   obtain⟨x,y,e1,e2,e3⟩:=(List.pairwise_cons.1 (qe h).2).1 b (by simp);obtain⟨u,v,f1,f2,f3⟩:=(List.pairwise_cons.1 (List.pairwise_reverse.1 (qe hs).2)).1 b (by simp);rw[e1] at f2;rw[e2] at f1;cases f1;cases f2;omega
theorem dm {ep:Nat} {D:List (Dd × Dk)} {H:List Nat} (h:∀ z∈D,ddH ep z.1≠H):iZ ep D H=none:=by
 unfold iZ;rw[Option.map_eq_none_iff,List.find?_eq_none];intro x hx;simpa using h x hx
theorem aT {ep:Nat} {D:List (Dd × Dk)} {H:List Nat} (h:H∈rK ep D):∃ y∈D,ddH ep y.1=H:=by
 unfold rK at h;obtain⟨j,_,h1⟩:=List.mem_flatMap.1 h;obtain⟨y,hy,_,e⟩:=fJ (List.mem_of_mem_take h1);exact⟨y,hy,e⟩
theorem acJ {ep:Nat} {D:List (Dd × Dk)} {H:List Nat} (h:H∈rK ep D):(∀ b∈H,b<256)∧H.length=32:=by
 obtain⟨y,_,rfl⟩:=aT h;exact⟨nI _ _,su _ _⟩
theorem aax (k:Pl) (lg lc:Nat→Nat) (D:List (Dd × Dk)) (hI:PlI k lc D) (H:List Nat) (hHb:∀ b∈H,b<256) (hHl:H.length=32) (hno:∀ z∈D,ddH k.ep z.1≠H) :
  Fn Tryz.prog 14 [pt k.P,.agg (byC H).toArray] (PlR k lg lc D) (Is (.tuple #[dlV 0 0 (.slice none 0 0) (.slice none 0 0) (.slice none 0 0) 0 0,.int .i64 7])) :=
 (aef k.p k.q k.g k.h k.f k.sec k.ns k.ep k.gM k.P (lsV lg lc (ddK k.ep D)) (ddM k.ep D) H hHb hHl (tV hI.dist) (fun u hu=>by
  obtain⟨x,hx,e⟩:=List.mem_map.1 hu;exact hno x hx (oZ (Prod.mk.inj e).1))).weak (fun w hw=>⟨hw.P,hw.M⟩) (fun _ _ h=>h)
theorem acI {p q g h:Nat} {f sec:Int} {N:List (Nat × Nat)} (hs:uc p q g h f sec N=true):3*f+1≤(N.length:Int):=by
 unfold uc at hs;simp only[Bool.and_eq_true,decide_eq_true_eq] at hs;exact hs.1.1.1.1.1.2
theorem ae3 {F:List (List Nat)} (h:∀ H∈F,(∀ b∈H,b<256)∧H.length=32):∀ H∈F,(byC H).length=32:=fun H hH=>by rw[zh];exact (h H hH).2
theorem fA {F:List (List Nat)} {R:List Value} {k:Nat} (h:∀ H∈F,(byC H).length=32) (hk:k≤F.length):cut (F.flatMap byC++R) 0 (k*32)=(F.take k).flatMap byC:=by
 have h1:((F.take k).flatMap byC).length=k*32:=by rw[te (fun x hx=>h x (List.mem_of_mem_take hx)),List.length_take];congr 1;omega
 have e:F.flatMap byC=(F.take k).flatMap byC++(F.drop k).flatMap byC:=by rw[← List.flatMap_append,List.take_append_drop]
 rw[e,List.append_assoc];exact jb h1
theorem cQ {g k n:Nat} {F:List (List Nat)} {R:List Value} (hn:F.length=n) (h:∀ H∈F,(byC H).length=32) (hk:k≤n):∃ o',d8 (some ⟨g,0,none⟩) n k 32=some ⟨g,o',none⟩∧cut (F.flatMap byC++R) o' ((n - k)*32)=(F.drop k).flatMap byC:=by
 unfold d8
 by_cases e:n=k
 ·refine⟨0,by rw[if_pos e],?_⟩;rw[e,Nat.sub_self,List.drop_eq_nil_of_le (by omega)];simp[cut]
 ·refine⟨k*32,by rw[if_neg e];simp[vO],?_⟩;have h1:((F.take k).flatMap byC).length=k*32:=by rw[te (fun x hx=>h x (List.mem_of_mem_take hx)),List.length_take];congr 1;omega
  have h2:((F.drop k).flatMap byC).length=(n - k)*32:=by rw[te (fun x hx=>h x (List.mem_of_mem_drop hx)),List.length_drop,hn]
  have e2:F.flatMap byC=(F.take k).flatMap byC++(F.drop k).flatMap byC:=by rw[← List.flatMap_append,List.take_append_drop]
  unfold cut;rw[e2,List.append_assoc,List.drop_left' h1,List.take_left' h2]
theorem fY {F:List (List Nat)} {H:List Nat} {R:List Value} {i:Nat} (h:∀ H∈F,(byC H).length=32) (hH:(byC H).length=32) (hi:i<F.length):over (F.flatMap byC++R) (i*32) (byC H)=(F.set i H).flatMap byC++R:=by
 have e:F.flatMap byC=(F.take i).flatMap byC++(F.drop i).flatMap byC:=by rw[← List.flatMap_append,List.take_append_drop]
 have hl:((F.take i).flatMap byC).length=i*32:=by rw[te (fun x hx=>h x (List.mem_of_mem_take hx)),List.length_take];congr 1;omega
 rw[List.drop_eq_getElem_cons hi,List.flatMap_cons] at e;rw[e,← hl,List.append_assoc,tE,List.set_eq_take_append_cons_drop,if_pos hi,List.flatMap_append,List.flatMap_cons,hH,← h F[i] (List.getElem_mem hi),List.append_assoc (byC F[i]),List.drop_left];simp
theorem mJ (l:List (List Nat)):(l.flatMap byC).all Value.oneCell'=true:=by
 rw[List.all_eq_true];intro x hx;obtain⟨H,_,h⟩:=List.mem_flatMap.1 hx;exact List.all_eq_true.1 (zM H) x h
section
variable {P:Program} {w0:World} {gs:List Nat} {K:List (Nat × Value)} {L:List Ent}
theorem ql {t elem size ty len cap l:Nat} {p p' : Option Addr} {k:IntKind} {x y:Operand} [SlT P t elem size] (hx:ev K x=some (.slice p len cap)) (hy:ev K y=some (.int k (l:Int))) (hh:l≤len) (ho' : d8 p cap l size=p') :
  Does P w0 gs K L (.slice t x (some y) none none) ty (.slice p' (len - l) (cap - l)):=by
 subst ho';exact uN hx hy hh
end
section
variable (k:Pl) (lg lc:Nat→Nat) (D:List (Dd × Dk))
theorem aI (hI:PlI k lc D) (hf1 : -9223372036854775808≤(k.N.length:Int) - k.f) (hf2:(k.N.length:Int) - k.f≤9223372036854775807) (hb:¬ (k.N.length:Int) - k.f≤((rK k.ep D).length:Int)) :
  Fn Tryz.prog 15 [pt k.P] (PlR k lg lc D) (Is (.tuple #[.slice none 0 0,.bool false])) :=
 Fn.drop (ey k lg lc D hI hf1 hf2) (fun v N hv=>hv.1 (decide_eq_false hb))
theorem bj (hI:PlI k lc D) (hf1 : -9223372036854775808≤(k.N.length:Int) - k.f) (hf2:(k.N.length:Int) - k.f≤9223372036854775807) (hb:(k.N.length:Int) - k.f≤((rK k.ep D).length:Int)) (hp:0<(rK k.ep D).length) :
  Fn Tryz.prog 15 [pt k.P] (PlR k lg lc D) (Ex (fun s=>.tuple #[.slice (some ⟨s 0,0,none⟩) (rK k.ep D).length (rK k.ep D).length,.bool true]) (fun s=>[⟨s 0,60,(rK k.ep D).flatMap byC++mkz (s 1) (byC (List.replicate 32 0))⟩]) (fun _=>True)) :=
 (ey k lg lc D hI hf1 hf2).weak (fun _ h=>h) (fun v N hv=>by
  obtain⟨g,c,rfl,rfl⟩:=hv.2 (decide_eq_true hb);refine⟨fun i=>if i=0 then g else c - (rK k.ep D).length,?_,?_,trivial⟩
  ·unfold ng;rw[vU hp];rfl
  ·unfold lm;rw[vA hp];rfl)
end
end Sx
end
end Go.Proofs.YteibfbjpkjkejaaGreatDoor
