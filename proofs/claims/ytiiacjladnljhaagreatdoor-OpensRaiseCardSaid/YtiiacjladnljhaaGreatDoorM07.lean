/- Part 7 of the proof: SxE, Num -/
import Derived.Test.YtiiacjladnljhaaGreatDoorM05
import Derived.WalkKit
import Derived.Lib.Hide
set_option linter.unusedSimpArgs false
set_option linter.unusedVariables false
namespace Go.Proofs.YtiiacjladnljhaaGreatDoor
open Go Go.RowKit Go.BigFrame
namespace Sx
def fieldsOf (P:Program) (t:TypeId):Array Field:=match P.underlying t with
  | some (.struct fs)=>fs
  | _=>#[]
class BuT (P:Program) (t:TypeId) (places:outParam (List (Nat × Nat))) (z:outParam (List Value)):Prop where
  zero:∀ w,(zeroValue t).run P w=.ok (.agg z.toArray) w
  under:P.underlying t=some (.struct (fieldsOf P t))
  places:∀ w,((fieldsOf P t).mapM (fun f=>do pure (f.offset,← sizeOf f.type):Field→Sem (Nat × Nat))).run P w=.ok places.toArray w
theorem BuT.build {P:Program} {t:TypeId} {places:List (Nat × Nat)} {z:List Value} [h:BuT P t places z] (w:World) (xs:Array (Nat × Value)) (cs:Array Value) (hf:Instr.fill (fun i=>places.toArray[i]?) z.toArray xs.toList=some cs) :
    (Instr.build t xs).run P w=.ok (.agg cs) w:=by
  have hu:∀ w,(underlying t).run P w=.ok (.struct (fieldsOf P t)) w:=fun w=>by simp[underlying,h.under]
  unfold Instr.build
  simp only[Sem.run_bind,h.zero,Result.andThen_ok,hu,h.places,Value.cells,hf,Sem.run_pure]
theorem build_array {P:Program} {t len elem size:Nat} {z:List Value} {v:Value} [h:ArT P t len elem size] [hz:ZeT P t v] (hv:v=.agg z.toArray) (w:World) (xs:Array (Nat × Value)) (cs:Array Value) (hf:Instr.fill (fun i=>some (i*size,size)) z.toArray xs.toList=some cs) :
    (Instr.build t xs).run P w=.ok (.agg cs) w:=by
  have hu:∀ w,(underlying t).run P w=.ok (.array len elem) w:=fun w=>by simp[underlying,h.under]
  subst hv
  unfold Instr.build
  simp only[Sem.run_bind,hz.zero,Result.andThen_ok,hu,h.size,Value.cells,hf,Sem.run_pure]
class FiT (P:Program) (s:TypeId) (i:Nat) (off t:outParam Nat):Prop where
  field:∀ w cs,(Instr.field s (.agg cs) i).run P w=(part t cs off).run P w
def fillL (place:Nat→Option (Nat × Nat)):List Value→List (Nat × Value)→Option (List Value)
  | cs,[]=>some cs
  | cs,(i,v)::r=>match place i with
    | none=>none
    | some (off,size)=>bif Nat.beq (cellsOf v).length size && Nat.ble (off+(cellsOf v).length) cs.length then fillL place (over cs off (cellsOf v)) r else none
theorem foldl_over (off:Nat):∀ (vs:List Value) (i:Nat) (cs:List Value),off+i+vs.length≤cs.length →
    (vs.zipIdx i).foldl (fun (a:Array Value) (p:Value × Nat)=>a.setIfInBounds (off+p.2) p.1) cs.toArray=(over cs (off+i) vs).toArray
  | [],i,cs,_=>by simp[over]
  | v::r,i,cs,h=>by
    simp only[List.length_cons] at h
    rw[List.zipIdx_cons,List.foldl_cons]
    simp only[List.setIfInBounds_toArray]
    rw[foldl_over off r (i+1) (cs.set (off+i) v) (by simp;omega)]
    congr 1
    have hlt:off+i<cs.length:=by omega
    unfold over
    rw[show off+(i+1)=off+i+1 by omega]
    simp only[List.length_cons]
    have h1:(cs.set (off+i) v).take (off+i+1)=cs.take (off+i)++[v]:=by
      rw[List.take_succ_eq_append_getElem (by simpa using hlt)]
      simp[List.take_set_of_le]
    have h2:(cs.set (off+i) v).drop (off+i+1+r.length)=cs.drop (off+i+(r.length+1)):=by
      rw[List.drop_set_of_lt (by omega),show off+i+1+r.length=off+i+(r.length+1) by omega]
    rw[h1,h2]
    simp
theorem fill_eq {place place' : Nat→Option (Nat × Nat)} (hp:∀ i,place i=place' i):∀ (xs:List (Nat × Value)) (cs cs' : List Value),fillL place cs xs=some cs'→Instr.fill place' cs.toArray xs=some cs'.toArray
  | [],cs,cs',h=>by cases h;rfl
  | (i,v)::r,cs,cs',h=>by
    unfold fillL at h
    unfold Instr.fill
    rw[hp i] at h
    cases hpl:place' i with
    | none=>rw[hpl] at h;cases h
    | some q =>
      obtain⟨off,size⟩:=q
      rw[hpl] at h
      simp only at h ⊢
      cases hb:(Nat.beq (cellsOf v).length size && Nat.ble (off+(cellsOf v).length) cs.length) with
      | false=>rw[hb] at h;cases h
      | true =>
        rw[hb] at h
        simp only[cond_true,Bool.and_eq_true] at h hb
        have h1:(cellsOf v).length=size:=Nat.eq_of_beq_eq_true hb.1
        have h2:off+(cellsOf v).length≤cs.length:=Nat.le_of_ble_eq_true hb.2
        have e:v.cells.size=(cellsOf v).length:=by rw[cellsOf_eq];simp
        rw[e,if_neg (by simp[h1];omega)]
        have:=foldl_over off (cellsOf v) 0 cs (by omega)
        rw[cellsOf_eq]
        simp only[Nat.add_zero] at this
        have hz:(cellsOf v).toArray.zipIdx.foldl (fun (a:Array Value) (p:Value × Nat)=>a.setIfInBounds (off+p.2) p.1) cs.toArray=(over cs off (cellsOf v)).toArray:=by
          rw[← this]
          simp[← Array.foldl_toList]
        have:=fill_eq hp r (over cs off (cellsOf v)) cs' h
        rw[← hz] at this
        exact this
def evp (K:List (Nat × Value)):List (Nat × Operand)→Option (List (Nat × Value))
  | []=>some []
  | (i,x)::r=>match ev K x with
    | some v=>match evp K r with
      | some vs=>some ((i,v)::vs)
      | none=>none
    | none=>none
theorem Kn.evp {K:List (Nat × Value)} {a:Act} (h:Kn K a):∀ {xs:List (Nat × Operand)} {vs:List (Nat × Value)},evp K xs=some vs→xs.map (fun (i,x)=>(i,a.eval x))=vs
  | [],vs,hx=>by cases hx;rfl
  | (i,x)::r,vs,hx=>by
    unfold Sx.evp at hx
    cases h1:ev K x with
    | none=>rw[h1] at hx;cases hx
    | some v =>
      cases h2:Sx.evp K r with
      | none=>rw[h1,h2] at hx;cases hx
      | some us =>
        rw[h1,h2] at hx
        cases hx
        simp only[List.map_cons,h.eval h1]
        rw[h.evp h2]
section
variable {P:Program} {w0:World} {gs:List Nat} {K:List (Nat × Value)} {L:List Ent}
theorem does_buildT {t ty:TypeId} {places:List (Nat × Nat)} {z cs:List Value} {xs:Array (Nat × Operand)} {vs:List (Nat × Value)} [BuT P t places z] (h1:evp K xs.toList=some vs) (h2:fillL (nth places) z vs=some cs) :
    Does P w0 gs K L (.build t xs) ty (.agg cs.toArray):=by
  intro a w hk _ o ho _
  have e:=hk.evp h1
  have e' : (xs.map fun (i,x)=>(i,a.eval x)).toList=vs:=by simpa using e
  have hb:=BuT.build (P:=P) (t:=t) w (xs.map fun (i,x)=>(i,a.eval x)) cs.toArray (by rw[e'];exact fill_eq (fun i=>by rw[nth_eq];simp) vs z cs h2)
  simp only[execOp,ho,Sem.run_bind]
  rw[hb]
  rfl
theorem does_buildA {t ty len elem size:Nat} {z cs:List Value} {zv:Value} {xs:Array (Nat × Operand)} {vs:List (Nat × Value)} [ArT P t len elem size] [ZeT P t zv] (hz:zv=.agg z.toArray) (h1:evp K xs.toList=some vs) (h2:fillL (fun i=>some (i*size,size)) z vs=some cs) :
    Does P w0 gs K L (.build t xs) ty (.agg cs.toArray):=by
  intro a w hk _ o ho _
  have e:=hk.evp h1
  have e' : (xs.map fun (i,x)=>(i,a.eval x)).toList=vs:=by simpa using e
  have hb:=build_array (P:=P) (t:=t) (size:=size) hz w (xs.map fun (i,x)=>(i,a.eval x)) cs.toArray (by rw[e'];exact fill_eq (fun i=>rfl) vs z cs h2)
  simp only[execOp,ho,Sem.run_bind]
  rw[hb]
  rfl
theorem does_field {s i off t n ty:Nat} {x:Operand} {cs vs:List Value} [FiT P s i off t] [AgT P t n] (hx:ev K x=some (.agg cs.toArray)) (hc:cut cs off n=vs) :
    Does P w0 gs K L (.field s x i) ty (.agg vs.toArray):=by
  intro a w hk _ o ho _
  subst hc
  simp only[execOp,ho,hk.eval hx,Sem.run_bind,FiT.field (P:=P) (s:=s) (i:=i),part,AgT.agg (P:=P) (t:=t) w,Result.andThen_ok,if_true,AgT.size (P:=P) (t:=t) w,Sem.run_pure]
  simp[cut,List.extract_eq_take_drop]
theorem does_field1 {s i off t ty:Nat} {x:Operand} {cs:List Value} {v:Value} [FiT P s i off t] [OnT P t] (hx:ev K x=some (.agg cs.toArray)) (hc:cs[off]?=some v) :
    Does P w0 gs K L (.field s x i) ty v:=by
  intro a w hk _ o ho _
  have:cs.toArray[off]?=some v:=by simpa using hc
  simp only[execOp,ho,hk.eval hx,Sem.run_bind,FiT.field (P:=P) (s:=s) (i:=i),part,OnT.agg (P:=P) (t:=t) w,Result.andThen_ok,Bool.false_eq_true,if_false,this,Sem.run_pure]
end
end Sx
end Go.Proofs.YtiiacjladnljhaaGreatDoor
namespace Go.Proofs.YtiiacjladnljhaaGreatDoor
def wd (i n:Nat):Nat :=
  match i with
  | 0=>n%18446744073709551616
  | 1=>n / 18446744073709551616%18446744073709551616
  | 2=>n / 340282366920938463463374607431768211456%18446744073709551616
  | _=>n / 6277101735386680763835789423207666416102355444464034512896%18446744073709551616
def val4 (a b c d:Nat):Nat :=
  a+18446744073709551616*b+340282366920938463463374607431768211456*c+6277101735386680763835789423207666416102355444464034512896*d
def B256:Nat:=115792089237316195423570985008687907853269984665640564039457584007913129639936
theorem wd_lt (i n:Nat):wd i n<18446744073709551616:=by
  unfold wd;split<;>exact Nat.mod_lt _ (by omega)
theorem wd_le (i n:Nat):wd i n≤18446744073709551615:=by have:=wd_lt i n;omega
theorem wd_val4 {a b c d:Nat} (ha:a<18446744073709551616) (hb:b<18446744073709551616) (hc:c<18446744073709551616) (hd:d<18446744073709551616) :
    wd 0 (val4 a b c d)=a∧wd 1 (val4 a b c d)=b∧wd 2 (val4 a b c d)=c∧wd 3 (val4 a b c d)=d:=by
  simp only[wd,val4];omega
theorem val4_wd {n:Nat} (h:n<B256):val4 (wd 0 n) (wd 1 n) (wd 2 n) (wd 3 n)=n:=by
  simp only[wd,val4,B256] at *;omega
theorem val4_lt {a b c d:Nat} (ha:a<18446744073709551616) (hb:b<18446744073709551616) (hc:c<18446744073709551616) (hd:d<18446744073709551616) :
    val4 a b c d<B256:=by simp only[val4,B256];omega
theorem wd_inj {m n:Nat} (hm:m<B256) (hn:n<B256) (h0:wd 0 m=wd 0 n) (h1:wd 1 m=wd 1 n) (h2:wd 2 m=wd 2 n) (h3:wd 3 m=wd 3 n):m=n:=by
  rw[← val4_wd hm,← val4_wd hn,h0,h1,h2,h3]
abbrev numC (n:Nat):List Value:=[.int .u64 ((wd 0 n:Nat):Int),.int .u64 ((wd 1 n:Nat):Int),.int .u64 ((wd 2 n:Nat):Int),.int .u64 ((wd 3 n:Nat):Int)]
abbrev numV (n:Nat):Value:=.agg #[.int .u64 ((wd 0 n:Nat):Int),.int .u64 ((wd 1 n:Nat):Int),.int .u64 ((wd 2 n:Nat):Int),.int .u64 ((wd 3 n:Nat):Int)]
theorem numV_of {a b c d:Nat} (ha:a<18446744073709551616) (hb:b<18446744073709551616) (hc:c<18446744073709551616) (hd:d<18446744073709551616) :
    Value.agg #[.int .u64 (a:Int),.int .u64 (b:Int),.int .u64 (c:Int),.int .u64 (d:Int)]=numV (val4 a b c d):=by
  obtain⟨e0,e1,e2,e3⟩:=wd_val4 ha hb hc hd
  simp only[numV,e0,e1,e2,e3]
theorem add_words (a b:Nat) (ha:a<B256) (hb:b<B256) (s0 s1 s2 s3 c0 c1 c2 c3:Nat)
    (e0:s0=(wd 0 a+wd 0 b)%18446744073709551616) (f0:c0=(wd 0 a+wd 0 b) / 18446744073709551616)
    (e1:s1=(wd 1 a+wd 1 b+c0)%18446744073709551616) (f1:c1=(wd 1 a+wd 1 b+c0) / 18446744073709551616)
    (e2:s2=(wd 2 a+wd 2 b+c1)%18446744073709551616) (f2:c2=(wd 2 a+wd 2 b+c1) / 18446744073709551616)
    (e3:s3=(wd 3 a+wd 3 b+c2)%18446744073709551616) (f3:c3=(wd 3 a+wd 3 b+c2) / 18446744073709551616) :
    val4 s0 s1 s2 s3=(a+b)%B256∧c3=(a+b) / B256:=by
  have h1:=val4_wd ha
  have h2:=val4_wd hb
  have:=wd_lt 0 a;have:=wd_lt 1 a;have:=wd_lt 2 a;have:=wd_lt 3 a
  have:=wd_lt 0 b;have:=wd_lt 1 b;have:=wd_lt 2 b;have:=wd_lt 3 b
  generalize wd 0 a=a0 at *;generalize wd 1 a=a1 at *;generalize wd 2 a=a2 at *;generalize wd 3 a=a3 at *
  generalize wd 0 b=b0 at *;generalize wd 1 b=b1 at *;generalize wd 2 b=b2 at *;generalize wd 3 b=b3 at *
  simp only[val4,B256] at *
  omega
end Go.Proofs.YtiiacjladnljhaaGreatDoor
