/- Part 46 of the proof. -/
import Derived.Test.YtiaibpcaloigkaaGreatDoorG44
import Derived.Test.YtiaibpcaloigkaaGreatDoorG45
set_option linter.unusedSimpArgs false
set_option linter.unusedVariables false
set_option maxHeartbeats 8000000
namespace Go.Proofs.YtiaibpcaloigkaaGreatDoor
section
open Go Go.RowKit Go.BigFrame
namespace Sx
def vtM (p q g:Nat) (ks:LP) (ep v:Nat) (S:LN) (i:Nat):Vt:=⟨ep,v,i+1,S,(vtS p q g (ks.getD i (0,0)).1 (voH ⟨ep,v,i+1,S,0,0⟩)).1,(vtS p q g (ks.getD i (0,0)).1 (voH ⟨ep,v,i+1,S,0,0⟩)).2⟩
def vtL (p q g:Nat) (ks:LP) (ep v:Nat) (S:LN) (n:Nat):List Vt:=(List.range n).map (vtM p q g ks ep v S)
theorem uP {p q g:Nat} {ks:LP} {ep v:Nat} {S:LN} {n:Nat}:(vtL p q g ks ep v S n).length=n:=by simp[vtL]
theorem aH (p q g:Nat) (ks:LP) (ep v:Nat) (S:LN) (n:Nat):vtL p q g ks ep v S (n+1)=vtL p q g ks ep v S n++[vtM p q g ks ep v S n]:=by unfold vtL;rw[yD]
theorem ahj (ep v n:Nat) (S:LN) (c s:Nat):voH ⟨ep,v,n,S,c,s⟩=voH ⟨ep,v,n,S,0,0⟩:=rfl
theorem jW {p q g a F m:Nat} {ks:LP} (hc:sc p q g a (F:Int) (m:Int) ks) (hq:q<ze) {ep v n:Nat} {S:LN} (hep:ep<18446744073709551616) (hv:v<1000) (hS:S.length=32) (hSb:∀ b∈S,b<256) (hn:n≤ks.length) :
  ad4 p q g (csN p g a ks) ep v 0 S (vtL p q g ks ep v S n):=by
 have h7:=hc.len;have key:∀ x∈vtL p q g ks ep v S n,∃ i k,i<n∧ks[i]?=some k∧x=vtM p q g ks ep v S i∧x.c<q∧x.s<q∧rX p q g (exN p g k.1) x.c x.s (voH x)=true:=fun x hx=>by
  obtain⟨i,hi,rfl⟩:=List.mem_map.1 hx;have hin:=List.mem_range.1 hi;obtain⟨k,hk⟩ : ∃ k,ks[i]?=some k:=⟨_,List.getElem?_eq_getElem Om⟩;obtain⟨_,h2,h3,h4⟩:=dL hc hk (voH ⟨ep,v,i+1,S,0,0⟩);have e:(ks.getD i (0,0)).1=k.1:=by rw[List.getD_eq_getElem?_getD,hk];rfl
  refine⟨i,k,hin,hk,rfl,?_,?_,?_⟩
  ·show (vtS p q g (ks.getD i (0,0)).1 _).1<q;rw[e];exact h3
  ·show (vtS p q g (ks.getD i (0,0)).1 _).2<q;rw[e];exact h4
  ·have h0:∀ c s,rX p q g (exN p g k.1) c s (voH ⟨ep,v,i+1,S,c,s⟩)=rX p q g (exN p g k.1) c s (voH ⟨ep,v,i+1,S,0,0⟩):=fun c s=>congrArg _ (ahj ep v (i+1) S c s);unfold vtM;rw[e];exact (h0 _ _).trans h2
 refine⟨fun i x hx=>?_,fun x hx=>?_,fun x hx=>?_⟩
 ·unfold vtL at hx;rw[List.getElem?_map] at hx;have hin:i<n:=by
   rcases Nat.lt_or_ge i n with h|h
   ·exact h
   ·rw[List.getElem?_eq_none (by simpa using h)] at hx;cases hx
  rw[List.getElem?_range hin] at hx;cases hx;exact⟨rfl,rfl,rfl,by show i+1=0+i+1;omega⟩
 ·obtain⟨i,k,h1,_,rfl,h2,h3,_⟩:=key x hx;exact⟨hep,hv,by show i+1<256;omega,hSb,hS,Nat.lt_trans h2 hq,Nat.lt_trans h3 hq⟩
 ·obtain⟨i,k,h1,hk,rfl,_,_,h4⟩:=key x hx;exact⟨csK p g (exN p g a) k,by show (csN p g a ks)[i+1 - 1]?=_;rw[Nat.add_sub_cancel];exact oW hk,h4⟩
def frP (seed ep i:Nat):List Nat:=[seed,i,seed / 7,3,ep%4294967296]
def frR (seed ep:Nat):List Rr:=(List.range 7).map fun i=>⟨none,frP seed ep i,0⟩
theorem nK {seed ep i:Nat} (hi:i<7):rrP (frR seed ep) i=frP seed ep i:=by
 unfold rrP frR;rw[List.getElem?_map,List.getElem?_range hi];rfl
theorem ae9 {seed ep i:Nat} (hs:seed<4294967296) (hi:i<7):∀ x∈frP seed ep i,x<4294967296:=by
 intro x hx;simp only[frP,List.mem_cons,List.not_mem_nil,or_false] at hx;omega
theorem yx {place:Nat→Option (Nat × Nat)} {i off size:Nat} {v:Value} {r:List (Nat × Value)} {cs vs:LV} (h:place i=some (off,size)) (hv:cellsOf v=vs) (hl:vs.length=size) (hle:Nat.ble (off+size) cs.length=true):ui place cs ((i,v)::r)=ui place (over cs off vs) r:=by
 subst hv;subst hl;have hb:Nat.beq (cellsOf v).length (cellsOf v).length=true:=Nat.beq_refl _;simp only[ui,h,hb,hle,Bool.and_self,cond_true]
theorem tV {A C vs:LV} (h:A.length=vs.length):over (A++C) 0 vs=vs++C:=by
 unfold over;simp[← h]
theorem jk (H:LN):cellsOf (.agg (byC H).toArray)=byC H:=by simp[cellsOf]
abbrev vtZ:List Value:=[.int .u8 0,.int .u64 0,.int .u32 0,.int .u8 0]++List.replicate 32 (.int .u8 0)++[wZ 0 0,wZ 1 0,wZ 2 0,wZ 3 0,wZ 0 0,wZ 1 0,wZ 2 0,wZ 3 0]
theorem bj {ep v n:Nat} {S:LN} (h:S.length=32):ui (nth [(0,1),(1,1),(2,1),(3,1),(4,32),(36,8)]) vtZ [(0,.int .u8 2),(1,.int .u64 (ep:Int)),(2,.int .u32 (v:Int)),(3,.int .u8 (n:Int)),(4,.agg (byC S).toArray)]=some (vtC ⟨ep,v,n,S,0,0⟩):=by
 rw[yx (off:=0) (size:=1) (vs:=[.int .u8 2]) rfl rfl rfl rfl,yx (off:=1) (size:=1) (vs:=[.int .u64 (ep:Int)]) rfl rfl rfl rfl,yx (off:=2) (size:=1) (vs:=[.int .u32 (v:Int)]) rfl rfl rfl rfl,yx (off:=3) (size:=1) (vs:=[.int .u8 (n:Int)]) rfl rfl rfl rfl,
  yx (off:=4) (size:=32) (vs:=byC S) rfl (jk S) (by rw[zd,h]) rfl]
 show some (over ([.int .u8 2,.int .u64 (ep:Int),.int .u32 (v:Int),.int .u8 (n:Int)]++(List.replicate 32 (.int .u8 0)++vC 0 0)) (4+0) (byC S))=_;rw[vc (n:=4) rfl,tV (by rw[zd,h];rfl)];rfl
abbrev bkZ:List Value:=[.int .u64 0]++List.replicate 32 (.int .u8 0)++[.int .u64 0,.slice none 0 0,.slice none 0 0,.slice none 0 0]
theorem iS {ep cep:Nat} {ah:LN} {sD sV:Value} (h:ah.length=32) (h1:cellsOf (.agg #[.int .u64 (cep:Int),sD,sV])=[.int .u64 (cep:Int),sD,sV]):ui (nth [(0,1),(1,32),(33,3),(36,1)]) bkZ [(0,.int .u64 (ep:Int)),(1,.agg (byC ah).toArray),(2,.agg #[.int .u64 (cep:Int),sD,sV])]=some (bkC ep ah cep sD sV (.slice none 0 0)):=by
 have hb:(byC ah).length=32:=by rw[zd,h]
 rw[yx (off:=0) (size:=1) (vs:=[.int .u64 (ep:Int)]) rfl rfl rfl rfl,yx (off:=1) (size:=32) (vs:=byC ah) rfl (jk ah) hb rfl]
 rw[show over (over bkZ 0 [.int .u64 (ep:Int)]) 1 (byC ah)=(.int .u64 (ep:Int)::byC ah)++[.int .u64 0,.slice none 0 0,.slice none 0 0,.slice none 0 0] from by
  show over ([.int .u64 (ep:Int)]++(List.replicate 32 (.int .u8 0)++[.int .u64 0,.slice none 0 0,.slice none 0 0,.slice none 0 0])) (1+0) (byC ah)=_;rw[vc (n:=1) rfl,tV (by rw[hb];rfl)];rfl]
 rw[yx (off:=33) (size:=3) (vs:=[.int .u64 (cep:Int),sD,sV]) rfl h1 rfl (by rw[List.length_append,List.length_cons,hb];rfl)];show some (over _ (33+0) _)=_;rw[vc (by rw[List.length_cons,hb])];rfl
section
variable {ep cep:Nat} {ah:LN} {sD sV sO x:Value}
theorem ab7 (h:ah.length=32) (j:Nat) (vs:LV):over (bkC ep ah cep sD sV sO) (33+j) vs=(.int .u64 (ep:Int)::byC ah)++over [.int .u64 (cep:Int),sD,sV,sO] j vs:=by
 show over ((.int .u64 (ep:Int)::byC ah)++[.int .u64 (cep:Int),sD,sV,sO]) (33+j) vs=_;rw[vc (by rw[List.length_cons,zd,h])]
theorem dM (h:ah.length=32):over (bkC ep ah cep sD sV sO) 35 [x]=bkC ep ah cep sD x sO:=ab7 h 2 [x]
theorem ac2 (h:ah.length=32):over (bkC ep ah cep sD sV sO) 36 [x]=bkC ep ah cep sD sV x:=ab7 h 3 [x]
end
section
variable {p q g a F m:Nat} {ks:LP} {ep n seed:Nat} {W:List ((Dd × Dk) × Nw)}
structure ahG (p q g a F m:Nat) (ks:LP) (ep seed:Nat) (W:List ((Dd × Dk) × Nw)):Prop where
 wy:∀ (i:Nat) (y:Dd × Dk),(W.map Prod.fst)[i]?=some y→WyH p q g (exN p g a) F m (csN p g a ks) ep [] (W.map (swW ep)) y.1 (dqL q (frP seed ep i) (F+m))
 wb:∀ (i:Nat) (y:Dd × Dk),(W.map Prod.fst)[i]?=some y→wB p q g (exN p g a) F m (csN p g a ks) ep [] (W.map (swW ep)) y.1=true
 d:∀ (i:Nat) (y:Dd × Dk),(W.map Prod.fst)[i]?=some y→y.1.d=i+1
 sn:∀ x∈W.map (swW ep),(∀ a∈x.P,a<ze)∧x.P.length≤100
theorem rD (hc:sc p q g a (F:Int) (m:Int) ks) (hp:p<ze) (hq:q<ze) (kW:tv p q g a F m ks ep (frR seed ep) n W) (hn:n≤ks.length):ahG p q g a F m ks ep seed W:=by
 obtain⟨hn1,hn7,hnq,hf0,hsec1,hfs,hmg,hmh⟩:=zS hc.set;have hk7:=hc.len;have hNl:=yW p g a ks;have hk0:0<ks.length:=by omega
 have hq0:0<q:=by omega
 have hWl:=kW.len;have hd:∀ (i:Nat) (y:Dd × Dk),(W.map Prod.fst)[i]?=some y→y.1.d=i+1:=fun i y hy=>by
  obtain⟨hi,hyX⟩:=kW.get hy;rw[hyX];show dqD ks.length i=i+1;exact ba Om
 have hWd:∀ (i:Nat) (x:(Dd × Dk) × Nw),W[i]?=some x→x.1.1.d=i+1∧x.2.xs=dqL q (frP seed ep i) (F+m):=fun i x hx=>by
  have hy:(W.map Prod.fst)[i]?=some x.1:=by rw[List.getElem?_map,hx];rfl
  obtain⟨hi,_⟩:=kW.get hy;refine⟨hd i x.1 hy,?_⟩;have h1:(W.map fun x=>x.2.xs)[i]?=some x.2.xs:=by rw[List.getElem?_map,hx];rfl
  rw[kW.p,List.getElem?_map,List.getElem?_range hi] at h1;rw[← nK Om];exact (Option.some.inj h1).symm
 have hSH:∀ x∈W.map (swW ep),∀ i,x.d=i+1→x.P=dqL q (frP seed ep i) (F+m):=fun x hx i hxd=>by
  obtain⟨y,hy,rfl⟩:=List.mem_map.1 hx;obtain⟨j,hj⟩:=List.getElem?_of_mem hy;obtain⟨h6,h6'⟩:=hWd j y hj;have h7:y.1.1.d=i+1:=hxd;have h8:j=i:=by omega
  subst h8;exact h6'
 refine⟨fun i y hy=>?_,fun i y hy=>?_,hd,fun x hx=>?_⟩
 ·obtain⟨hi,hyX⟩:=kW.get hy;rw[nK Om] at hyX;have hyd:=hd i y hy;have hll:(dqL q (frP seed ep i) (F+m)).length=F+m:=uF _ _ _;have hall:uz q (dqL q (frP seed ep i) (F+m))=true:=cf Om;refine⟨by rw[hyX];exact fM hk0 Om,by rw[hyX];exact ae0 hp hq hq0,by rw[hyd];omega,by rw[hyX];exact aft hc hk0,hll,fun x hx hs=>?_,fun h=>?_⟩
  ·unfold swB at hs;rw[Bool.and_eq_true,decide_eq_true_eq,decide_eq_true_eq,hyd] at hs;have hxP:=hSH x hx i hs.2;rw[hxP];refine⟨?_,?_,rfl⟩
   ·have h1:=aac (m:=dqL q (frP seed ep i) (F+m)) hc.pri hc.set (l:=dqL q (frP seed ep i) (F+m)) (by rw[hll];omega) hall;rw[decide_eq_true rfl] at h1;rw[hyX];show aee p q g (exN p g a) (F:Int) (m:Int) (csN p g a ks) (dVs p q g (dqL q (frP seed ep i) (F+m)) ks.length) _=true;rw[← hNl];exact h1
   ·unfold mz;rw[hc.set,hall,hll,decide_eq_true Om];rfl
  ·exfalso;have h' : F+m≤0:=h;omega
 ·unfold wB
  rw[show (W.map (swW ep)).any (swB ep y.1.d)=true from List.any_eq_true.2 (by
   obtain⟨x,hx,rfl⟩:=List.mem_map.1 (List.mem_of_getElem? hy);exact⟨swW ep x,List.mem_map.2 ⟨x,hx,rfl⟩,by unfold swB swW;rw[decide_eq_true rfl,decide_eq_true rfl];rfl⟩),Bool.true_or]
 ·obtain⟨y,hy,rfl⟩:=List.mem_map.1 hx;obtain⟨i,hi⟩:=List.getElem?_of_mem hy;show (∀ a∈y.2.xs,a<ze)∧y.2.xs.length≤100;rw[(hWd i y hi).2];exact⟨fun z hz=>Nat.lt_trans (cQ Om z hz) hq,by rw[uF];omega⟩
end
theorem dU:∀ {VL:List Vt},(∀ x∈VL,x.S.length=32)→(VL.flatMap vtC).length=VL.length*44
 | [],_=>rfl
 | x::VL,h=>by
  rw[List.flatMap_cons,List.length_append,vO (h x (List.mem_cons_self ..)),dU (fun y hy=>h y (List.mem_cons_of_mem _ hy)),List.length_cons];omega
theorem cM {y:Vt} (h:(vtC y).length=44):ui (fun i=>some (i*vtZ.length,vtZ.length)) (mkz 1 vtZ) [(0,.agg (vtC y).toArray)]=some (vtC y):=by
 rw[yx (off:=0) (size:=44) (vs:=vtC y) rfl (by simp[cellsOf]) h rfl];show some (over _ 0 _)=_;rw[zC (by rw[h];rfl)]
end Sx
end
section
open Go Go.RowKit Go.BigFrame
namespace Sx
attribute [local irreducible] DQ WC WO WT WX yN ddH hOf voH vtS wd
def afL (p q g a F m:Nat) (ks:LP) (ep:Nat) (ah:LN) (seed view n k:Nat):Value→List Ent→Prop:=fun v L=>∃ gl cl gs cs gh ch gv cv go co W,
 v=.tuple #[.agg (bkC ep ah ep (AQ gh n ch) (AQ gv k cv) (AQ go m m)).toArray,evV (AQ gl n cl) (.slice none 0 0) (AQ gs n cs)] ∧
 L=⟨gl,51,(W.map Prod.fst).flatMap (ddC ep)++mkz (cl - n) dzC⟩::⟨gs,53,(W.map (swW ep)).flatMap swC++mkz (cs - n) swZ⟩::⟨gh,70,(W.map fun x=>ddH ep x.1.1).flatMap byC++mkz (ch - n) hzC⟩::⟨gv,140,(vtL p q g ks ep (view%1000) (hOf (zN uW) (W.map fun x=>ddH ep x.1.1)) k).flatMap vtC++mkz (cv - k) vtZ⟩::⟨go,70,(vaL p q (exN p g a) m ep (W.map fun x=>ddH ep x.1.1) n (fun i=>dqL q (frP seed ep i) (F+m))).flatMap byC++mkz (co - m) hzC⟩::mdB W ∧
 tv p q g a F m ks ep (frR seed ep) n W∧k≤cv∧n≤ch
section
variable (p q g h0 a:Nat) (F m:Nat) (pk:Option Addr) (ck:Nat) (ks:LP) (pt:Option Addr) (c:Nat) (ep:Nat) (ah:LN) (seed view:Nat)
theorem aQ (hc:sc p q g a (F:Int) (m:Int) ks) (hp:p<ze) (hq:q<ze) (hg:g<ze) (hh0:h0<ze) (ha:a<ze) (hks:zZ ks) (hep:ep<18446744073709551616) (hah:ah.length=32) (hseed:seed<4294967296) (hview:view<4294967296) :
  Fn Tryz.prog 17 [csV p q g h0 a (F:Int) (m:Int) (.slice pk ks.length ck),stV p q g (exN p g a) (F:Int) (m:Int) (.slice pt ks.length c),.agg (byC ah).toArray,.int .u64 (ep:Int),.int .u32 (seed:Int),.int .u32 (view:Int)]
   (fun w=>RdF ya (.slice pk ks.length ck) ks w∧RdF ya (.slice pt ks.length c) (csN p g a ks) w∧uY w) (afL p q g a F m ks ep ah seed view (ks.length - F) ((ks.length+F) / 2+1)):=by
 obtain⟨hs1',hs7,hsq,hs0,hs2',hs5,_,_⟩:=zS hc.set;have hNl2:=yW p g a ks;have hk7:=hc.len;have h3F:3*F+1≤ks.length∧F≤2:=by
  have hs:=hc.set;unfold y5 at hs;simp only[Bool.and_eq_true,decide_eq_true_eq] at hs;omega
 obtain⟨h3F,hF2⟩:=h3F;have hn:0<ks.length:=by omega
 have hq0:0<q:=by omega
 have hq64:q<18446744073709551616:=by have:=hc.q32;omega
 have hwq:wd 0 q=q:=c9 hq64;have hwq0:((wd 0 q:Nat):Int)≠0:=by rw[hwq];omega
 have hFm:IntKind.i64.wrap ((F:Int)+(m:Int))=((F+m:Nat):Int):=zl Om Om Om;have hnF:IntKind.i64.wrap ((ks.length:Int) - (F:Int))=((ks.length - F:Nat):Int):=zl Om Om Om;have hFm0:0<F+m:=by omega
 have hdiv:IntKind.u32.wrap ((seed:Int).tdiv 7)=((seed / 7:Nat):Int):=by
  rw[Int.tdiv_eq_ediv_of_nonneg Om];show ((seed:Int) / 7)%4294967296=_;omega
 have hcep:IntKind.u32.wrap (ep:Int)=((ep%4294967296:Nat):Int):=by
  show (ep:Int)%4294967296=_;omega
 have hblA:(byC ah).length=32:=by rw[zd,hah]
 have hDt:=fun (i:Nat) (p1:Option Addr) (c1:Nat) (P:LN) (hP:∀ x∈P,x<4294967296) (hi:i<256)=>ae3 p q g h0 a F m pk ck ks pt c ep i p1 c1 P hc hn hp hq hg hh0 ha hks hP hi hep;have hXf:=fun i P=>fM (p:=p) (q:=q) (g:=g) (a:=a) (F:=F) (m:=m) (ks:=ks) (ep:=ep) (d:=i) (P:=P) hn Om;have hXd:=fun i P=>ahr (p:=p) (q:=q) (g:=g) (a:=a) (F:=F) (m:=m) (ks:=ks) (ep:=ep) (d:=i) (P:=P) hn;obtain⟨n,hnn⟩ : ∃ n,ks.length - F=n:=⟨_,rfl⟩;rw[hnn] at hnF ⊢;have hn0:0<n:=by omega
 have hn7:n≤7:=by omega
 refine Fn.enter Tryz.func17 rfl rfl rfl ?_;intro w hw;obtain⟨w1,w2,w3⟩:=hw
 repeat (first|refine Tk ?_|intro _|exact Tz)
 rename_i gZ gS gA gRB gRE gE;obtain⟨Rows,hRows⟩ : ∃ Rows:Nat→Nat→Nat→Nat→Nat→Nat→Nat→List ((Dd × Dk) × Nw)→List Ent,∀ i gl cl gs cs gh ch W,Rows i gl cl gs cs gh ch W=rwL 51 gl ((W.map Prod.fst).flatMap (ddC ep)) (mkz (cl - i) dzC) i++(rwL 53 gs ((W.map (swW ep)).flatMap swC) (mkz (cs - i) swZ) i++(rwL 70 gh ((W.map fun x=>ddH ep x.1.1).flatMap byC) (mkz (ch - i) hzC) i++mdB W)):=⟨_,fun _ _ _ _ _ _ _ _=>rfl⟩
 refine WC.loopI (σ:=Nat × (Nat × Nat) × (Nat × Nat) × (Nat × Nat) × List ((Dd × Dk) × Nw)) (fun s=>s.1≤n∧tv p q g a F m ks ep (frR seed ep) s.1 s.2.2.2.2∧(0<s.1→(s.1≤s.2.1.2∧s.2.1.2<9223372036854775808)∧(s.1≤s.2.2.1.2∧s.2.2.1.2<9223372036854775808)∧(s.1≤s.2.2.2.1.2∧s.2.2.2.1.2<9223372036854775808)))
  (fun s=>[(6,Sx.pt gZ),(7,Sx.pt gS),(8,Sx.pt gA),(12,Sx.pt gRB),(13,Sx.pt gRE),(14,Sx.pt gE),(3,.int .u64 (ep:Int)),(4,.int .u32 (seed:Int)),(5,.int .u32 (view:Int)),(15,agV s.2.2.2.1.1 s.2.2.2.1.2 s.1 s.1),(16,.int .i64 (s.1:Int))])
  (fun s=>⟨gE,59,[agV s.2.1.1 s.2.1.2 s.1 s.1,.slice none 0 0,agV s.2.2.1.1 s.2.2.1.2 s.1 s.1]⟩::⟨gRE,59,[.slice none 0 0,.slice none 0 0,.slice none 0 0]⟩::⟨gRB,75,bkZ⟩::⟨gA,70,byC ah⟩::⟨gS,36,stC p q g (exN p g a) (F:Int) (m:Int) (.slice pt ks.length c)⟩::⟨gZ,29,csC p q g h0 a (F:Int) (m:Int) (.slice pk ks.length ck)⟩::Rows s.1 s.2.1.1 s.2.1.2 s.2.2.1.1 s.2.2.1.2 s.2.2.2.1.1 s.2.2.2.1.2 s.2.2.2.2) (fun s=>n - s.1) (0,(0,0),(0,0),(0,0),[]) (fun s hi=>?_) ⟨Nat.zero_le _,⟨rfl,rfl⟩,fun h=>absurd h Dtt⟩ (hl:=by simp only[hRows];repeat (first|exact Lle.nil|refine Lle.c ?_))
 obtain⟨i,⟨gl,cl⟩,⟨gs,cs⟩,⟨gh,ch⟩,W⟩:=s;obtain⟨hi,hW,hr⟩:=hi
 try dsimp only at hi hW hr ⊢
 have hWl:W.length=i:=by have:=congrArg List.length hW.d;simpa using this
 by_cases hlt:i<n
 ·have hadd2:IntKind.i64.wrap ((i:Int)+1)=((i+1:Nat):Int):=zl Om Om Om;have hcvi:IntKind.u8.wrap (i:Int)=(i:Int):=u8_in Om Om;have hc32:IntKind.u32.wrap (i:Int)=(i:Int):=u32_in Om Om
  repeat (first|refine WO.does (zG rfl rfl hnF) ?_|refine Tj ?_|intro _|refine Tc ?_|exact Tz)
  refine WC.dT rfl Om ?_
  repeat (first|refine WO.does (zr rfl hc32) ?_|refine WO.does (ud rfl rfl Dtt hdiv) ?_|refine WO.does (zr rfl hcep) ?_|refine Tj ?_|intro _|refine Tc ?_|exact Tz)
  refine WO.makes (zh (cs:=[.int .u32 (seed:Int),.int .u32 (i:Int),.int .u32 ((seed / 7:Nat):Int),.int .u32 3,.int .u32 ((ep%4294967296:Nat):Int)]) rfl Dtt rfl) ?_;intro gf;obtain⟨P,hPe⟩ : ∃ P,frP seed ep i=P:=⟨_,rfl⟩;have hPl:P.length=5:=by rw[← hPe];rfl
  have hPn:∀ x∈P,x<4294967296:=by rw[← hPe];exact ae9 hseed Om
  have hPc:([.int .u32 (seed:Int),.int .u32 (i:Int),.int .u32 ((seed / 7:Nat):Int),.int .u32 3,.int .u32 ((ep%4294967296:Nat):Int)]:LV)=P.flatMap jX:=by rw[← hPe];rfl
  rw[hPc];have hXe:dqX p q g a F m ks ep i P=dqX p q g a F m ks ep i (rrP (frR seed ep) i):=by rw[nK Om,hPe]
  have hLe:dqL q P (F+m)=dqL q (rrP (frR seed ep) i) (F+m):=by rw[nK Om,hPe]
  clear hPe hPc;have hDe0:=hDt i (some ⟨gf,0,none⟩) 5 P hPn Om;have hVl:=aeP (p:=p) (q:=q) (g:=g) (a:=a) (F:=F) (m:=m) (ks:=ks) (ep:=ep) (d:=i) (P:=P);have hYl:=aek (p:=p) (q:=q) (g:=g) (a:=a) (F:=F) (m:=m) (ks:=ks) (ep:=ep) (d:=i) (P:=P);have hPl':=aef (p:=p) (q:=q) (g:=g) (a:=a) (F:=F) (m:=m) (ks:=ks) (ep:=ep) (d:=i) (P:=P);have hfit:=hXf i P;have hxd:=hXd i P;have hll:=uF q P (F+m);generalize dqX p q g a F m ks ep i P=X at *
  have hDe:Fn Tryz.prog 30 [csV p q g h0 a (F:Int) (m:Int) (.slice pk ks.length ck),stV p q g (exN p g a) (F:Int) (m:Int) (.slice pt ks.length c),.int .u64 (ep:Int),dqV i (AQ gf 5 5)] (fun w=>RdF ya (.slice pk ks.length ck) ks w∧RdF ya (.slice pt ks.length c) (csN p g a ks) w∧RdE jX (AQ gf 5 5) P w)
   (Ex (fun s=>ag9 ep X (some ⟨s 0,0,none⟩) (some ⟨s 1,0,none⟩) (some ⟨s 2,0,none⟩) X.V.length X.Y.length X.P.length) (fun s=>ddL X ⟨s 0,s 1,s 2,0,0,0⟩) (fun _=>True)):=by
   rw[hVl,hYl,hPl'];rw[hPl] at hDe0;exact hDe0
  clear hDe0 hDt hXf hXd
  repeat (first|refine WO.does (zr rfl hcvi) ?_|refine Tj ?_|intro _|refine Tc ?_|exact Tz)
  refine WO.acallX (hc:=hDe) (hR:=fun wx hm=>⟨w1.mod hm.mod,w2.mod hm.mod,⟨some ⟨gf,0,none⟩,5,by rw[hPl],.inr ⟨gf,0,rfl,Hs.sg hm⟩⟩⟩) (k:=fun s _=>?_);generalize s 0=gV;generalize s 1=gY;generalize s 2=gP;simp only[ddL,List.cons_append,List.nil_append]
  repeat (first|refine Tk ?_|intro _|exact Tz)
  rename_i gd
  refine WC.loopI (σ:=Nat × Nat × Nat) (fun s=>s.1≤F+m∧(0<s.1→s.1≤s.2.2∧s.2.2<9223372036854775808)) (fun s=>[(6,Sx.pt gZ),(7,Sx.pt gS),(8,Sx.pt gA),(12,Sx.pt gRB),(13,Sx.pt gRE),(14,Sx.pt gE),(3,.int .u64 (ep:Int)),(4,.int .u32 (seed:Int)),(5,.int .u32 (view:Int)),(15,agV gh ch i i),(16,.int .i64 (i:Int)),(17,AQ gf 5 5),(18,Sx.pt gd),(19,agV s.2.1 s.2.2 s.1 s.1),(20,.int .i64 (s.1:Int))])
   (fun s=>⟨gd,51,ddC ep (X,⟨gV,gY,gP,0,0,0⟩)⟩::⟨gV,24,X.V.flatMap zc++mkz 0 (zc 0)⟩::⟨gY,24,X.Y.flatMap zc++mkz 0 (zc 0)⟩::⟨gP,117,X.P.flatMap pfC++mkz 0 (vC 0 0)⟩::⟨gf,79,P.flatMap jX⟩::⟨gE,59,[agV gl cl i i,.slice none 0 0,agV gs cs i i]⟩::⟨gRE,59,[.slice none 0 0,.slice none 0 0,.slice none 0 0]⟩::⟨gRB,75,bkZ⟩::⟨gA,70,byC ah⟩::⟨gS,36,stC p q g (exN p g a) (F:Int) (m:Int) (.slice pt ks.length c)⟩::⟨gZ,29,csC p q g h0 a (F:Int) (m:Int) (.slice pk ks.length ck)⟩::(rwL 24 s.2.1 ((dqL q P s.1).flatMap zc) (mkz (s.2.2 - s.1) (zc 0)) s.1++Rows i gl cl gs cs gh ch W)) (fun s=>F+m - s.1) (0,0,0) (fun s hi=>?_) ⟨Nat.zero_le _,fun h=>absurd h Dtt⟩ (hl:=by (try simp only[List.cons_append,List.nil_append]);repeat (first|exact Lle.left'|refine Lle.c ?_|refine Lle.skp ?_))
  obtain⟨k,gc,cc⟩:=s;obtain⟨hk,hrc⟩:=hi
  try dsimp only at hk hrc ⊢
  by_cases hlk:k<F+m
  ·have hadd3:IntKind.i64.wrap ((k:Int)+1)=((k+1:Nat):Int):=zl Om Om Om;obtain⟨x,hx⟩ : ∃ x,P[k]?=some x:=⟨_,List.getElem?_eq_getElem Om⟩;have hxb:=hPn x (List.mem_of_getElem? hx);have hkP:k<P.length:=by omega
   have hv:dqP q P k=x%q:=by unfold dqP;rw[if_pos hkP,List.getD_eq_getElem?_getD,hx];rfl
   have hcvx:IntKind.u64.wrap (x:Int)=(x:Int):=u64_in Om Om;have hrmx:((x:Int)).tmod ((wd 0 q:Nat):Int)=((x%q:Nat):Int):=by rw[hwq];rfl
   have hcP:(P.flatMap jX)[k*1]?=some (.int .u32 (x:Int)):=vb (j:=0) (zL (f:=jX) (k:=1) (fun _=>rfl) hx) rfl;have hvb:dqP q P k<18446744073709551616:=Nat.lt_trans (dJ hq0 k) hq64;have hLs:(dqL q P k).flatMap zc++zc (dqP q P k)=(dqL q P (k+1)).flatMap zc:=by unfold dqL;rw[yD,List.flatMap_append];simp
   have hLl:((dqL q P k).flatMap zc).length=k*4:=by rw[zF zU,uF]
   rw[ij hvb] at hLs;rw[hv] at hLs;clear hv;generalize hvv:x%q=v at *
   repeat (first|refine WO.does (zi rfl rfl hFm) ?_|refine Tj ?_|intro _|refine Tc ?_|exact Tz)
   refine WC.dT rfl Om ?_
   repeat (first|refine Tk ?_|intro _|exact Tz)
   refine WC.mainV [12,13,14] [(0,agV gc cc k k),(1,AQ gf 5 5),(2,.int .i64 (k:Int)),(3,.pointer (some ⟨gf,k*1,none⟩)),(4,.int .u32 (x:Int)),(5,.int .u64 (x:Int)),(6,Ap gS),(7,.pointer (some ⟨gS,4,none⟩)),(8,.pointer (some ⟨gS,4,none⟩)),(9,.int .u64 ((wd 0 q:Nat):Int)),(10,.int .u64 (v:Int)),(11,.agg ([.int .u64 ((v:Nat):Int),wZ 1 0,wZ 2 0,wZ 3 0]).toArray)] Dtt ?_;refine WT.with [⟨gf,79,P.flatMap jX⟩,⟨gS,36,stC p q g (exN p g a) (F:Int) (m:Int) (.slice pt ks.length c)⟩] Kr (Tlv.auto (Tlv.auto (Tlv.auto (Tlv.d rfl (zb (o':=k*1) rfl rfl Om (Nat.zero_add _)) (Tlv.d rfl (zx (hc:=hcP)) (Tlv.d rfl (zr rfl hcvx) (Tlv.auto (Tlv.auto (Tlv.d rfl v8 (Tlv.auto (Tlv.d rfl (yK rfl rfl hwq0 hrmx) (Tlv.d rfl (zz (cs:=[.int .u64 ((v:Nat):Int),wZ 1 0,wZ 2 0,wZ 3 0]) rfl rfl Kr) Tlv.nil)))))))))))) (fun hc hT=>?_)
   refine WT.one (m:=12) rfl hc hT ?_;refine WO.makes (zh (cs:=[.int .u64 ((v:Nat):Int),wZ 1 0,wZ 2 0,wZ 3 0]) rfl Dtt rfl) ?_;intro gb;refine WO.nil (WX.wt [(74,AQ gb 1 1)] ?_);refine WT.one (m:=13) rfl hc hT ?_;refine WO.appR (z:=zc 0) (g:=gc) (c:=cc) (n:=k) (m:=1) (l:=k+1) (B:=(dqL q P k).flatMap zc) (ys:=[.int .u64 ((v:Nat):Int),wZ 1 0,wZ 2 0,wZ 3 0]) (L1:=[_,_,_,_,_,_,_,_,_,_,_,_]) (L2:=Rows i gl cl gs cs gh ch W) rfl rfl rfl rfl hLl hrc (Rds.own (m:=4) Hs.here rfl) rfl rfl Dtt rfl Om Om Dtt Dtt (fun g1 c1 a1 a2=>?_);rw[hLs];simp only[List.cons_append,List.nil_append];refine WO.nil (WX.wt [(75,AQ g1 (k+1) c1)] ?_);refine WT.one (m:=14) rfl hc hT ?_;refine Tw ?_;refine WO.nil (WX.wt [(19,AQ g1 (k+1) c1)] ?_);refine WT.fin [14] 16 hc rfl Kr ?_;clear hc hT
   repeat (first|refine WO.does (zi rfl rfl hadd3) ?_|refine Tj ?_|intro _|refine Tc ?_|exact Tz)
   exact WX.metI (k+1,g1,c1) (hl:=by simp only[rwL,List.cons_append,List.nil_append];repeat (first|exact Lle.left'|refine Lle.c ?_|refine Lle.skp ?_)) (hs:=⟨⟨by show k+1≤F+m;omega,fun _=>⟨a2,a1⟩⟩,by show F+m - (k+1)<F+m - k;omega⟩)
  have hk2:k=F+m:=by omega
  subst hk2;clear hlk hk;have hrc':=hrc hFm0;have hHx:=pM ep X.d X.c X.s (some ⟨gV,0,none⟩) (some ⟨gY,0,none⟩) (some ⟨gP,0,none⟩) X.V.length X.Y.length X.P.length X.V X.Y X.P Om hfit.v hfit.y hfit.p (by have:=hfit.vl;omega) (by have:=hfit.yl;omega) (by have:=hfit.pl;omega);rw[show yN ep X.d X.V X.Y X.P=ddH ep X by unfold ddH;rfl] at hHx;obtain⟨wx,hwx⟩ : ∃ wx:(Dd × Dk) × Nw,wx=((X,⟨gV,gY,gP,0,0,0⟩),⟨gc,cc,dqL q P (F+m)⟩):=⟨_,rfl⟩;have hMd:mdB (W++[wx])=⟨gc,24,(dqL q P (F+m)).flatMap zc++mkz (cc - (F+m)) (zc 0)⟩::⟨gV,24,X.V.flatMap zc++mkz 0 (zc 0)⟩::⟨gY,24,X.Y.flatMap zc++mkz 0 (zc 0)⟩::⟨gP,117,X.P.flatMap pfC++mkz 0 (vC 0 0)⟩::mdB W:=by
   rw[abO,hwx];unfold nwE;rw[hll];rfl
  have hD2:(W.map Prod.fst).flatMap (ddC ep)++ddC ep (X,⟨gV,gY,gP,0,0,0⟩)=((W++[wx]).map Prod.fst).flatMap (ddC ep):=by rw[List.map_append,List.flatMap_append,hwx];simp
  have hS2:(W.map (swW ep)).flatMap swC++[.int .u64 (ep:Int),.int .u8 (X.d:Int),AQ gc (F+m) cc]=((W++[wx]).map (swW ep)).flatMap swC:=by rw[List.map_append,List.flatMap_append,hwx];simp[swW,swC,hll]
  have hH2:(W.map fun x=>ddH ep x.1.1).flatMap byC++byC (ddH ep X)=((W++[wx]).map fun x=>ddH ep x.1.1).flatMap byC:=by rw[List.map_append,List.flatMap_append,hwx];simp
  have hDl:((W.map Prod.fst).flatMap (ddC ep)).length=i*13:=by rw[acz,List.length_map,hWl]
  have hSl2:((W.map (swW ep)).flatMap swC).length=i*3:=by rw[zF dG,List.length_map,hWl]
  have hHl2:((W.map fun x=>ddH ep x.1.1).flatMap byC).length=i*32:=by
   clear hD2 hS2 hH2 hMd hDl hSl2 hW;rw[← hWl];clear hWl
   induction W with
   | nil=>rfl
   | cons x W ih=>rw[List.map_cons,List.flatMap_cons,List.length_append,ih,zd,vh,List.length_cons];omega
  have hcH:cut (byC (ddH ep X)) 0 32=byC (ddH ep X):=zt (by rw[zd,vh]);have hbH:(byC (ddH ep X)).length=32:=by rw[zd,vh]
  have hb32:(byC (ddH ep X)).length=1*(hzC).length:=by rw[zd,vh];rfl
  have hHl3:((W.map fun x=>ddH ep x.1.1).flatMap byC).length=i*(hzC).length:=hHl2;rw[yT hFm0,hRows];rw[yr hFm0];simp only[List.cons_append,List.nil_append]
  repeat (first|refine WO.does (zi rfl rfl hFm) ?_|refine Tj ?_|intro _|refine Tc ?_|exact Tz)
  refine WC.dF rfl Om ?_
  repeat (first|refine WO.does (zw (vs:=ddC ep (X,⟨gV,gY,gP,0,0,0⟩)) (hc:=rfl)) ?_|refine Tj ?_|intro _|refine Tc ?_|exact Tz)
  refine WO.makes (zh (cs:=ddC ep (X,⟨gV,gY,gP,0,0,0⟩)) rfl Dtt rfl) ?_;intro gb;refine WO.appR (z:=dzC) (g:=gl) (c:=cl) (n:=i) (m:=1) (l:=i+1) (B:=(W.map Prod.fst).flatMap (ddC ep)) (ys:=ddC ep (X,⟨gV,gY,gP,0,0,0⟩)) (L1:=[_,_,_,_,_,_,_,_,_,_,_,_,_]) (L2:=_) rfl rfl rfl rfl hDl (fun h=>(hr h).1) (Rds.own (m:=13) Hs.here rfl) rfl rfl Dtt rfl Om Om Dtt Dtt (fun gl2 cl2 a1 a2=>?_);rw[hD2];simp only[List.cons_append,List.nil_append]
  repeat (first|refine Tk ?_|intro _|exact Tz)
  refine WO.makes (zh (cs:=[.int .u64 (ep:Int),.int .u8 (X.d:Int),AQ gc (F+m) cc]) rfl Dtt rfl) ?_;intro gb2;refine WO.appR (z:=swZ) (g:=gs) (c:=cs) (n:=i) (m:=1) (l:=i+1) (B:=(W.map (swW ep)).flatMap swC) (ys:=[.int .u64 (ep:Int),.int .u8 (X.d:Int),AQ gc (F+m) cc]) (L1:=[_,_,_,_,_,_,_,_,_,_,_,_,_,_,_]) (L2:=_) rfl rfl rfl rfl hSl2 (fun h=>(hr h).2.1) (Rds.own (m:=3) Hs.here rfl) rfl rfl Dtt rfl Om Om Dtt Dtt (fun gs2 cs2 b1 b2=>?_);rw[hS2];simp only[List.cons_append,List.nil_append]
  repeat (first|refine WO.does (zw (vs:=ddC ep (X,⟨gV,gY,gP,0,0,0⟩)) (hc:=rfl)) ?_|refine WO.acallR (hc:=hHx) (hR:=fun wx hm=>⟨RdF.ownO (Hs.sg hm) rfl,RdF.ownO (Hs.sg hm) rfl,RdF.ownO (Hs.sg hm) rfl⟩) (k:=?_)|refine Tj ?_|intro _|refine Tc ?_|exact Tz)
  refine WO.makes (zh (cs:=byC (ddH ep X)) rfl Dtt (nL hbH)) ?_;intro gb3;refine WO.appR (z:=hzC) (g:=gh) (c:=ch) (n:=i) (m:=1) (l:=i+1) (B:=(W.map fun x=>ddH ep x.1.1).flatMap byC) (ys:=byC (ddH ep X)) (L1:=[_,_,_,_,_,_,_,_,_,_,_,_,_,_,_,_,_]) (L2:=_) rfl rfl rfl rfl hHl3 (fun h=>(hr h).2.2) (Rds.own (m:=32) Hs.here hcH) hb32 (zM _) Dtt rfl Om Om Dtt Dtt (fun gh2 ch2 c1 c2=>?_);rw[hH2];simp only[List.cons_append,List.nil_append]
  repeat (first|refine WO.does (zi rfl rfl hadd2) ?_|refine Tj ?_|intro _|refine Tc ?_|exact Tz)
  exact WX.metI (i+1,(gl2,cl2),(gs2,cs2),(gh2,ch2),W++[wx]) (hl:=by simp only[hRows,rwL,agV,hMd,List.cons_append,List.nil_append];repeat (first|exact Lle.left'|refine Lle.c ?_|refine Lle.skp ?_)) (hs:=⟨⟨by show i+1≤n;omega,⟨mQ _ _ hW.d (by rw[hwx];exact hXe),mQ _ _ hW.p (by rw[hwx];exact hLe)⟩,fun _=>⟨⟨a2,a1⟩,⟨b2,b1⟩,⟨c2,c1⟩⟩⟩,by show n - (i+1)<n - i;omega⟩)
 have hi2:n=i:=by omega
 subst hi2;obtain⟨r1,r2,r3⟩:=hr Om;rw[hRows,yT hn0,yT hn0,yT hn0,yr hn0,yr hn0,yr hn0];simp only[List.cons_append,List.nil_append]
 repeat (first|refine WO.does (zG rfl rfl hnF) ?_|refine Tj ?_|intro _|refine Tc ?_|exact Tz)
 refine WC.dF rfl Om ?_
 repeat (first|refine WO.does (zw (vs:=byC ah) (hc:=zt hblA) (hl:=hblA)) ?_|refine Tj ?_|intro _|refine Tc ?_|exact Tz)
 clear hlt hi;have hE:=rD hc hp hq hW Om;obtain⟨HL,hHL⟩ : ∃ HL,(W.map fun x=>ddH ep x.1.1)=HL:=⟨_,rfl⟩;have hHl:HL.length=n:=by rw[← hHL,List.length_map,hWl]
 have hH32:∀ H∈HL,H.length=32:=fun H hH=>by
  rw[← hHL] at hH;obtain⟨x,_,rfl⟩:=List.mem_map.1 hH;exact vh _ _
 have hHb:∀ H∈HL,∀ b∈H,b<256:=fun H hH=>by
  rw[← hHL] at hH;obtain⟨x,_,rfl⟩:=List.mem_map.1 hH;exact qR _ _
 rw[hHL];have hSet:=ao (some ⟨gh,0,none⟩) ch HL Om Om hH32 hHb;rw[hHl] at hSet;obtain⟨S,hS⟩ : ∃ S,hOf (zN uW) HL=S:=⟨_,rfl⟩;have hSl:S.length=32:=by rw[← hS];exact zI _ _
 have hSb:∀ b∈S,b<256:=by rw[← hS];exact yX _ _
 rw[hS] at hSet;have hbk:=fun sV sO=>ut (ep:=ep) (cep:=ep) (sD:=AQ gh n ch) (sV:=sV) (sO:=sO) hah;refine WO.does (uL (cs:=bkC ep ah ep (AQ gh n ch) (.slice none 0 0) (.slice none 0 0)) rfl (iS hah rfl)) ?_
 repeat (first|refine WO.stores (zo (vs:=bkC ep ah ep (AQ gh n ch) (.slice none 0 0) (.slice none 0 0)) (cs':=bkC ep ah ep (AQ gh n ch) (.slice none 0 0) (.slice none 0 0)) (hl:=hbk _ _) (h1:=rQ rfl rfl rfl) (hc:=zC (by rw[hbk];rfl)) (hle:=by rw[hbk];rfl)) ?_|refine Tj ?_|intro _|refine Tc ?_|exact Tz)
 rename_i gB;obtain⟨Qm,hQm⟩ : ∃ Qm,(ks.length+F) / 2+1=Qm:=⟨_,rfl⟩;have hQ:=jx ks.length F Om Om hF2;rw[hQm] at hQ ⊢;have hQ0:0<Qm:=by omega
 have hQk:Qm≤ks.length:=by omega
 refine WC.loopI (σ:=Nat × Nat × Nat) (fun s=>s.1≤Qm∧(0<s.1→s.1≤s.2.2∧s.2.2<9223372036854775808)) (fun s=>[(6,Sx.pt gZ),(7,Sx.pt gS),(8,Sx.pt gA),(12,Sx.pt gRB),(13,Sx.pt gRE),(14,Sx.pt gE),(3,.int .u64 (ep:Int)),(4,.int .u32 (seed:Int)),(5,.int .u32 (view:Int)),(15,AQ gh n ch),(21,Sx.pt gB),(22,.int .i64 (s.1:Int))])
  (fun s=>⟨gB,75,bkC ep ah ep (AQ gh n ch) (agV s.2.1 s.2.2 s.1 s.1) (.slice none 0 0)⟩::⟨gE,59,[AQ gl n cl,.slice none 0 0,AQ gs n cs]⟩::⟨gRE,59,[.slice none 0 0,.slice none 0 0,.slice none 0 0]⟩::⟨gRB,75,bkZ⟩::⟨gA,70,byC ah⟩::⟨gS,36,stC p q g (exN p g a) (F:Int) (m:Int) (.slice pt ks.length c)⟩::⟨gZ,29,csC p q g h0 a (F:Int) (m:Int) (.slice pk ks.length ck)⟩::⟨gl,51,(W.map Prod.fst).flatMap (ddC ep)++mkz (cl - n) dzC⟩::⟨gs,53,(W.map (swW ep)).flatMap swC++mkz (cs - n) swZ⟩::⟨gh,70,HL.flatMap byC++mkz (ch - n) hzC⟩::(rwL 140 s.2.1 ((vtL p q g ks ep (view%1000) S s.1).flatMap vtC) (mkz (s.2.2 - s.1) vtZ) s.1++mdB W)) (fun s=>Qm - s.1) (0,0,0) (fun s hi=>?_) ⟨Nat.zero_le _,fun h=>absurd h Dtt⟩ (hl:=by (try simp only[List.cons_append,List.nil_append]);repeat (first|exact Lle.left'|refine Lle.c ?_|refine Lle.skp ?_))
 obtain⟨j,gv,cv⟩:=s;obtain⟨hj,hr⟩:=hi
 try dsimp only at hj hr ⊢
 by_cases hlt:j<Qm
 ·obtain⟨kj,hkj⟩ : ∃ k,ks[j]?=some k:=⟨_,List.getElem?_eq_getElem Om⟩;obtain⟨bK,oK,rfl,_,hsK⟩:=id w1 |>.get hkj
  have hadj:IntKind.i64.wrap ((j:Int)+1)=((j+1:Nat):Int):=zl Om Om Om;have hcj:IntKind.u8.wrap ((j+1:Nat):Int)=((j+1:Nat):Int):=tt Om Om Om;have hrm:((view:Int)).tmod 1000=((view%1000:Nat):Int):=rfl;have hvok:aeJ ⟨ep,view%1000,j+1,S,0,0⟩:=⟨hep,Nat.mod_lt _ Dtt,by show j+1<256;omega,hSb,hSl,zE,zE⟩;have hkn:=hks kj (List.mem_of_getElem? hkj);obtain⟨v1,_,_,_⟩:=dL hc hkj (voH ⟨ep,view%1000,j+1,S,0,0⟩);have hvm:vtM p q g ks ep (view%1000) S j=⟨ep,view%1000,j+1,S,(vtS p q g kj.1 (voH ⟨ep,view%1000,j+1,S,0,0⟩)).1,(vtS p q g kj.1 (voH ⟨ep,view%1000,j+1,S,0,0⟩)).2⟩:=by
   unfold vtM;rw[show (ks.getD j (0,0)).1=kj.1 by rw[List.getD_eq_getElem?_getD,hkj];rfl]
  have hBs:Fn Tryz.prog 49 [stV p q g (exN p g a) (F:Int) (m:Int) (.slice pt ks.length c),.agg (vtC ⟨ep,view%1000,j+1,S,0,0⟩).toArray,zk kj.1] Tr (Is (.tuple #[.agg (vtC (vtM p q g ks ep (view%1000) S j)).toArray,.int .i64 0])):=by
   rw[hvm];exact aeA p q g (exN p g a) (.slice pt ks.length c) (F:Int) (m:Int) ⟨ep,view%1000,j+1,S,0,0⟩ kj.1 hvok hp hq hg hkn.1 Om v1
  have hnx:=aH p q g ks ep (view%1000) S j;have hyS:(vtM p q g ks ep (view%1000) S j).S.length=32:=hSl;have hyl:=vO hyS;have hVf:((vtL p q g ks ep (view%1000) S j).flatMap vtC).length=j*vtZ.length:=by
   rw[dU (fun x hx=>by
    obtain⟨i,_,rfl⟩:=List.mem_map.1 hx;exact hSl),uP]
   rfl
  have hB2:(vtL p q g ks ep (view%1000) S j).flatMap vtC++vtC (vtM p q g ks ep (view%1000) S j)=(vtL p q g ks ep (view%1000) S (j+1)).flatMap vtC:=by rw[hnx,List.flatMap_append];simp
  clear hvm hnx v1;generalize vtM p q g ks ep (view%1000) S j=y at *
  repeat (first|refine WO.acallR (hc:=hQ) (hR:=fun _ _=>trivial) (k:=?_)|refine Tj ?_|intro _|refine Tc ?_|exact Tz)
  refine WC.dT rfl Om ?_
  repeat (first|refine Tk ?_|intro _|exact Tz)
  refine WC.adrawF [19] 21 (k:=?_)
  iterate 3 refine Dx ?_
  refine DQ.does (fun s _=>yK rfl rfl Dtt hrm) Dp.const ?_;refine Dx ?_;refine DQ.does (fun s _=>zi rfl rfl hadj) Dp.const ?_;refine DQ.does (fun s _=>zr rfl hcj) Dp.const ?_;refine Dx ?_;refine DQ.acallR (hc:=hSet) (hR:=fun wx hm=>RdF.ownO (Hs.sg hm) hHl) (k:=?_);refine DQ.does (fun s _=>uL (cs:=vtC ⟨ep,view%1000,j+1,S,0,0⟩) rfl (bj hSl)) Dp.const ?_
  iterate 3 refine Dx ?_
  refine DQ.does (fun s _=>zb (o':=oK+j*8) rfl rfl Om rfl) Dp.const ?_;refine Dx ?_;refine DQ.does (fun s _=>zn (vs:=zc kj.1) (hs:=hsK) (hle:=Nat.le_add_right _ _) (hc:=sY hkj)) Dp.const ?_;refine DQ.acallR (hc:=hBs) (hR:=fun _ _=>trivial) (k:=?_)
  repeat (first|refine Da ?_|refine Df ?_)
  refine DQ.anil (k:=?_);intro sx _
  repeat (first|refine WO.stores (zo (vs:=vtC y) (cs':=vtC y) (hl:=hyl) (h1:=qf y) (hc:=zC (by rw[hyl];rfl)) (hle:=by rw[hyl];rfl)) ?_|refine WO.does (zx (hc:=ny hah 2)) ?_|refine WO.does (zw (vs:=vtC y) (hc:=zt hyl) (hl:=hyl)) ?_|refine Tj ?_|intro _|refine Tc ?_|exact Tz)
  refine WO.makes (zh (cs:=vtC y) rfl Dtt (cM hyl)) ?_;intro gb;refine WO.appR (z:=vtZ) (g:=gv) (c:=cv) (n:=j) (m:=1) (l:=j+1) (B:=(vtL p q g ks ep (view%1000) S j).flatMap vtC) (ys:=vtC y) (L1:=[_,_,_,_,_,_,_,_,_,_,_,_]) (L2:=mdB W) rfl rfl rfl rfl hVf hr (Rds.own (m:=44) Hs.here (zt hyl)) (by rw[hyl];rfl) (qf y) Dtt rfl Om Om Dtt Dtt (fun g1 c1 a1 a2=>?_);rw[hB2];simp only[List.cons_append,List.nil_append]
  repeat (first|refine WO.stores (zo (vs:=[AQ g1 (j+1) c1]) (cs':=bkC ep ah ep (AQ gh n ch) (AQ g1 (j+1) c1) (.slice none 0 0)) (hc:=dM hah) (hle:=by rw[hbk];rfl)) ?_|refine WO.does (zi rfl rfl hadj) ?_|refine Tj ?_|intro _|refine Tc ?_|exact Tz)
  exact WX.metI (j+1,g1,c1) (hl:=by simp only[rwL,agV,List.cons_append,List.nil_append];repeat (first|exact Lle.left'|refine Lle.c ?_|refine Lle.skp ?_)) (hs:=⟨⟨by show j+1≤Qm;omega,fun _=>⟨a2,a1⟩⟩,by show Qm - (j+1)<Qm - j;omega⟩)
 have hj2:Qm=j:=by omega
 subst hj2;rw[yT hQ0,yr hQ0];simp only[List.cons_append,List.nil_append];clear hlt hj;have hWE:=hE.wy;have hSec:=rI p q g (exN p g a) F m pt c (csN p g a ks) ep (some ⟨gl,0,none⟩) cl (W.map Prod.fst) none 0 [] (some ⟨gs,0,none⟩) cs (W.map (swW ep)) (some ⟨gh,0,none⟩) ch HL (fun i=>dqL q (frP seed ep i) (F+m)) true hp hq hg (ub hp) (sL hp) Om hc.set Om Om hep (by rw[List.length_map,hWl];omega) hE.sn (by rw[List.length_map,hWl];omega) (by rw[List.length_map,hWl];omega) (by rw[← hHL];exact hW.hs) hE.wy (fun i y hy _=>hE.wb i y hy) (fun i y bD oD e2 d2 s2 hy=>by
  have:=qS p q g (exN p g a) F m pt c (csN p g a ks) ep y (some ⟨bD,oD,none⟩) cl (W.map Prod.fst) none 0 (some ⟨gs,0,none⟩) cs (W.map (swW ep)) e2 d2 s2 (osL p q (exN p g a) (dqL q (frP seed ep i) (F+m)) m) Om Om Om;rw[show decide (F+m≤(acu (ckY p q g (exN p g a) F m (csN p g a ks) ep y.1) []).length)=false from decide_eq_false (by show ¬ F+m≤0;omega)];exact this)
 have hTl:(W.map Prod.fst).length=n:=by rw[List.length_map,hWl]
 have hShl:(W.map (swW ep)).length=n:=by rw[List.length_map,hWl]
 rw[hTl,hShl,hNl2] at hSec
 repeat (first|refine WO.acallR (hc:=hQ) (hR:=fun _ _=>trivial) (k:=?_)|refine Tj ?_|intro _|refine Tc ?_|exact Tz)
 refine WC.dF rfl Om ?_
 repeat (first|refine Tk ?_|intro _|exact Tz)
 refine WO.calls (fs:=[]) (cs:=[]) hSec rfl rfl rfl (fun wx hm=>⟨w2.mod hm.mod,⟨RdF.ownO (Hs.sg hm) rfl,fun y hy=>jj (fun e he=>hm.ok e (by repeat (first|exact he|exact List.mem_append_left _ he|apply List.mem_cons_of_mem|apply List.mem_append_right))) y hy,RdF.nilV,RdF.ownO (Hs.sg hm) rfl,fun x hx=>by
  obtain⟨z,hz,rfl⟩:=List.mem_map.1 hx;exact iA (fun e he=>hm.ok e (by repeat (first|exact he|exact List.mem_append_left _ he|apply List.mem_cons_of_mem|apply List.mem_append_right))) z.2 (List.mem_map.2 ⟨z,hz,rfl⟩)⟩,RdF.ownO (Hs.sg hm) hHl,w3.mod hm.mod Sm⟩) (fun v1 N1 hv=>?_)
 obtain⟨gO,cO',Z,rfl,rfl,hZ,hZm⟩:=hv;have hZl:Z.length=n:=by have:=congrArg List.length hZ;simpa using this
 have hZx:∀ z∈Z,z.xs.length=m:=fun z hz=>by
  have h1:z.xs∈Z.map Nw.xs:=List.mem_map.2 ⟨z,hz,rfl⟩;rw[hZ] at h1;obtain⟨i,_,hi⟩:=List.mem_map.1 h1;rw[← hi,nx]
 have hOf:=agJ p q g (exN p g a) F m pt c (csN p g a ks) ep (some ⟨gh,0,none⟩) ch HL (some ⟨gO,0,none⟩) n Z hp hq hg (ub hp) (sL hp) Om hc.set Om Om Om Om Om hH32 hHb Om hZx;rw[hZ,← jT,hHl,hNl2] at hOf;refine WO.behind [_,_,_,_,_,_,_,_,_,_,_] ?_;simp only[afj,yr hn0,List.cons_append,List.nil_append]
 repeat (first|refine Tk ?_|intro _|exact Tz)
 refine WO.calls (fs:=[]) (cs:=[]) hOf rfl rfl rfl (fun wx hm=>⟨w2.mod hm.mod,RdF.ownO (Hs.sg hm) hHl,⟨RdF.ownO (Hs.sg hm) hZl,fun z hz=>aeB (hm.ok _ (by repeat (first|exact List.mem_append_left _ (dB hz)|apply List.mem_cons_of_mem)))⟩⟩) (fun v1 N1 hv=>?_);obtain⟨gV,cV,rfl,rfl⟩:=hv;simp only[List.cons_append,List.nil_append]
 repeat (first|refine WO.stores (zo (vs:=[AQ gV m m]) (cs':=bkC ep ah ep (AQ gh n ch) (AQ gv Qm cv) (AQ gV m m)) (hc:=ac2 hah) (hle:=by rw[hbk];rfl)) ?_|refine Tj ?_|intro _|refine Tc ?_|exact Tz)
 subst hS;subst hHL;refine WC.mainV [2,3] [(0,.agg (bkC ep ah ep (AQ gh n ch) (AQ gv Qm cv) (AQ gV m m)).toArray),(1,.agg ([AQ gl n cl,.slice none 0 0,AQ gs n cs]).toArray)] Dtt ?_;refine WT.with [⟨gB,75,bkC ep ah ep (AQ gh n ch) (AQ gv Qm cv) (AQ gV m m)⟩,⟨gE,59,[AQ gl n cl,.slice none 0 0,AQ gs n cs]⟩] Kr (Tlv.d rfl (zw (vs:=bkC ep ah ep (AQ gh n ch) (AQ gv Qm cv) (AQ gV m m)) (hc:=zt (hbk _ _)) (hl:=hbk _ _)) (Tlv.auto Tlv.nil)) (fun hc hT=>?_)
 refine WT.step [2,3] Dtt hc hT ⟨⟨_,rfl,?_⟩,⟨_,rfl,?_⟩,trivial⟩
 ·refine WO.stores (zo (vs:=bkC ep ah ep (AQ gh n ch) (AQ gv Qm cv) (AQ gV m m)) (cs':=bkC ep ah ep (AQ gh n ch) (AQ gv Qm cv) (AQ gV m m)) (hl:=hbk _ _) (h1:=rQ rfl rfl rfl) (hc:=zC (by rw[hbk];rfl)) (hle:=by rw[hbk];rfl)) ?_;refine WO.nil (WX.wt [] ?_);refine WT.one (m:=3) rfl hc hT ?_;refine WO.stores zo ?_;refine WO.nil (WX.wt [] ?_);refine WT.fin [2,3] 5 hc rfl Kr ?_;clear hc hT
  repeat (first|refine Tk ?_|intro _|exact Tz)
  exact WX.ret2 rfl (zW rfl Hs.a (zt (hbk _ _)) (hbk _ _)) (zW (vs:=[AQ gl n cl,.slice none 0 0,AQ gs n cs]) rfl Hs.a rfl rfl) _ (by (iterate 5 refine Lle.c ?_);repeat (first|exact Lle.skpL _ Lle.left'|refine Lle.skp ?_)) ⟨gl,cl,gs,cs,gh,ch,gv,cv,gV,cV,W,rfl,rfl,hW,(hr hQ0).1,r3.1⟩
 ·refine WO.stores zo ?_;refine WO.nil (WX.wt [] ?_);refine WT.one (m:=2) rfl hc hT ?_;refine WO.stores (zo (vs:=bkC ep ah ep (AQ gh n ch) (AQ gv Qm cv) (AQ gV m m)) (cs':=bkC ep ah ep (AQ gh n ch) (AQ gv Qm cv) (AQ gV m m)) (hl:=hbk _ _) (h1:=rQ rfl rfl rfl) (hc:=zC (by rw[hbk];rfl)) (hle:=by rw[hbk];rfl)) ?_;refine WO.nil (WX.wt [] ?_);refine WT.fin [2,3] 5 hc rfl Kr ?_;clear hc hT
  repeat (first|refine Tk ?_|intro _|exact Tz)
  exact WX.ret2 rfl (zW rfl Hs.a (zt (hbk _ _)) (hbk _ _)) (zW (vs:=[AQ gl n cl,.slice none 0 0,AQ gs n cs]) rfl Hs.a rfl rfl) _ (by (iterate 5 refine Lle.c ?_);repeat (first|exact Lle.skpL _ Lle.left'|refine Lle.skp ?_)) ⟨gl,cl,gs,cs,gh,ch,gv,cv,gV,cV,W,rfl,rfl,hW,(hr hQ0).1,r3.1⟩
end
end Sx
end
section
open Go Go.RowKit Go.BigFrame
namespace Sx
attribute [local irreducible] DQ WC WO WT WX yN ddH hOf wd
theorem sX:Fn Tryz.prog 50 [.pointer none] Tr (Is (.bool false)):=by
 refine Fn.enter Tryz.func50 rfl rfl rfl ?_;intro w hw
 repeat (first|refine WO.does (iG (e:=136) Kr rfl rfl) ?_|refine Tj ?_|intro _|refine Tc ?_|exact Tz)
 done
theorem agM:Fn Tryz.prog 16 [stV 0 0 0 0 0 0 (.slice none 0 0)] Tr (Is (.tuple #[.pointer none,.int .i64 1])):=by
 have hS:=yh 0 0 0 0 0 0 none 0 [] Dtt Dtt Dtt Dtt (fun k hk=>by simp at hk) Sm Dtt Dtt Dtt Dtt;rw[show y5 0 0 0 0 0 0 []=false by decide] at hS;refine Fn.enter Tryz.func16 rfl rfl rfl ?_;intro w hw
 repeat (first|refine Tj ?_|intro _|refine WO.acallR (hc:=hS) (hR:=fun wx hm=>⟨none,0,rfl,.inl ⟨rfl,rfl⟩⟩) (k:=?_)|refine Tc ?_|exact Tz)
 done
theorem afK (r:Nat):Fn Tryz.prog 23 [.pointer none,.int .u64 (r:Int)] Tr (Is (.tuple #[.agg (byC (List.replicate 32 0)).toArray,.int .i64 2])):=by
 have hT:=sX;refine Fn.enter Tryz.func23 rfl rfl rfl ?_;intro w hw
 repeat (first|refine WO.does (zz (cs:=byC (List.replicate 32 0)) rfl rfl Kr) ?_|refine Tj ?_|intro _|refine WO.acall (hc:=hT) (k:=?_)|refine Tc ?_|exact Tz)
 done
theorem agy (r:Nat):Fn Tryz.prog 22 [.pointer none,.int .u64 (r:Int)] Tr (Is (.tuple #[.agg bkZ.toArray,evV (.slice none 0 0) (.slice none 0 0) (.slice none 0 0),.int .i64 2])):=by
 have hT:=sX;refine Fn.enter Tryz.func22 rfl rfl rfl ?_;intro w hw
 repeat (first|refine Tj ?_|intro _|refine WO.acall (hc:=hT) (k:=?_)|refine Tc ?_|exact Tz)
 done
theorem afW:Fn Tryz.prog 20 [.pointer none] Tr (Is (.int .i64 0)):=by
 have hT:=sX;refine Fn.enter Tryz.func20 rfl rfl rfl ?_;intro w hw
 repeat (first|refine Tj ?_|intro _|refine WO.acall (hc:=hT) (k:=?_)|refine Tc ?_|exact Tz)
 done
theorem afv:Fn Tryz.prog 19 [.pointer none,.agg bkZ.toArray,evV (.slice none 0 0) (.slice none 0 0) (.slice none 0 0)] Tr (Is (.int .i64 2)):=by
 have hT:=sX;refine Fn.enter Tryz.func19 rfl rfl rfl ?_;intro w hw
 repeat (first|refine Tj ?_|intro _|refine WO.acall (hc:=hT) (k:=?_)|refine Tc ?_|exact Tz)
 done
theorem ez:Fn Tryz.prog 15 [] Tr (Is (.bool true)):=by
 have h1:=agM;have h2:=afK 0;have h3:=agy 1;have h4:=afW;have h5:=afv;have h6:=(agu 0 0 0 0 none 0 [] 0 0 Dtt Dtt Dtt Dtt (fun k hk=>by simp at hk) Sm Dtt Dtt Dtt Dtt Dtt).weak (R':=Tr) (fun w _=>⟨none,0,rfl,.inl ⟨rfl,rfl⟩⟩) (fun _ _ h=>h);have hz:∀ b∈List.replicate 32 0,b<256:=fun b hb=>by rw[List.eq_of_mem_replicate hb];decide
 refine Fn.enter Tryz.func15 rfl rfl rfl ?_;intro w hw
 repeat (first|refine WO.does (zO rfl rfl rfl) ?_|refine WO.does (m8 (A:=List.replicate 32 0) (B:=List.replicate 32 0) hz hz rfl rfl rfl rfl (decide_eq_true rfl)) ?_|refine Tj ?_|intro _|refine WO.acall (hc:=h1) (k:=?_)|refine WO.acall (hc:=h2) (k:=?_)|refine WO.acall (hc:=h3) (k:=?_)|refine WO.acall (hc:=h4) (k:=?_)|refine WO.acall (hc:=h5) (k:=?_)|refine WO.acall (hc:=h6) (k:=?_)|refine Tc ?_|exact Tz)
 done
end Sx
end
section
open Go Go.RowKit Go.BigFrame
namespace Sx
attribute [local irreducible] DQ WC WO WT WX yN ddH gnH hOf voH vtS wd
section
variable (p q g a F m:Nat) (ks:LP) (ep:Nat) (ah:LN) (seed view n k:Nat)
def mdN (s:Nat→Nat) (i:Nat):(Dd × Dk) × Nw:=((dqX p q g a F m ks ep i (frP seed ep i),⟨s (8*i),s (8*i+1),s (8*i+2),s (8*i+3),s (8*i+4),s (8*i+5)⟩),⟨s (8*i+6),s (8*i+7),dqL q (frP seed ep i) (F+m)⟩)
def mdW (s:Nat→Nat):List ((Dd × Dk) × Nw):=(List.range n).map (mdN p q g a F m ks ep seed s)
def mdH:List (List Nat):=(List.range n).map fun i=>ddH ep (dqX p q g a F m ks ep i (frP seed ep i))
theorem afo (s:Nat→Nat):((mdW p q g a F m ks ep seed n s).map fun x=>ddH ep x.1.1)=mdH p q g a F m ks ep seed n:=by unfold mdW mdH;rw[List.map_map];rfl
theorem abJ (hn:n≤7) (s:Nat→Nat):tv p q g a F m ks ep (frR seed ep) n (mdW p q g a F m ks ep seed n s):=by
 refine⟨?_,?_⟩
 ·unfold mdW;rw[List.map_map];refine List.map_congr_left fun i hi=>?_;rw[nK (by have:=List.mem_range.1 hi;omega)];rfl
 ·unfold mdW;rw[List.map_map];refine List.map_congr_left fun i hi=>?_;rw[nK (by have:=List.mem_range.1 hi;omega)];rfl
def ag7 (x:(Dd × Dk) × Nw):Nat→Nat
 | 0=>x.1.2.v
 | 1=>x.1.2.y
 | 2=>x.1.2.p
 | 3=>x.1.2.rv
 | 4=>x.1.2.ry
 | 5=>x.1.2.rp
 | 6=>x.2.g
 | _=>x.2.c
theorem afY (hn:n≤7) {W:List ((Dd × Dk) × Nw)} (kW:tv p q g a F m ks ep (frR seed ep) n W):∃ s,W=mdW p q g a F m ks ep seed n s:=by
 refine⟨fun j=>((W[j / 8]?).map fun x=>ag7 x (j%8)).getD 0,?_⟩;have hWl:=kW.len;refine List.ext_getElem? fun i=>?_;unfold mdW;rw[List.getElem?_map]
 rcases Nat.lt_or_ge i n with hi|hi
 ·obtain⟨x,hx⟩ : ∃ x,W[i]?=some x:=⟨_,List.getElem?_eq_getElem Om⟩;have h1:(W.map fun x=>x.1.1)[i]?=some x.1.1:=by rw[List.getElem?_map,hx];rfl
  have h2:(W.map fun x=>x.2.xs)[i]?=some x.2.xs:=by rw[List.getElem?_map,hx];rfl
  rw[kW.d,List.getElem?_map,List.getElem?_range hi,Option.map_some,nK Om] at h1;rw[kW.p,List.getElem?_map,List.getElem?_range hi,Option.map_some,nK Om] at h2;have e1:=Option.some.inj h1;have e2:=Option.some.inj h2;rw[hx,List.getElem?_range hi];have hj:∀ j,j<8→((W[(8*i+j) / 8]?).map fun x=>ag7 x ((8*i+j)%8)).getD 0=ag7 x j:=fun j hj=>by
   rw[show (8*i+j) / 8=i by omega,show (8*i+j)%8=j by omega,hx];rfl
  have h0:=hj 0 Dtt;rw[Nat.add_zero] at h0;show some x=some (mdN p q g a F m ks ep seed _ i);unfold mdN;simp only[h0,hj 1 Dtt,hj 2 Dtt,hj 3 Dtt,hj 4 Dtt,hj 5 Dtt,hj 6 Dtt,hj 7 Dtt];rw[e1,e2];rfl
 ·rw[List.getElem?_eq_none Om,List.getElem?_eq_none (by simpa using hi)];rfl
abbrev mkV (s:Nat→Nat):Value:=.tuple #[.agg (bkC ep ah ep (AQ (s 4) n (s 5)) (AQ (s 6) k (s 7)) (AQ (s 8) m m)).toArray,evV (AQ (s 0) n (s 1)) (.slice none 0 0) (AQ (s 2) n (s 3))]
def mkL (s:Nat→Nat):List Ent :=
 ⟨s 0,51,((mdW p q g a F m ks ep seed n (fun j=>s (10+j))).map Prod.fst).flatMap (ddC ep)++mkz (s 1 - n) dzC⟩::⟨s 2,53,((mdW p q g a F m ks ep seed n (fun j=>s (10+j))).map (swW ep)).flatMap swC++mkz (s 3 - n) swZ⟩::⟨s 4,70,(mdH p q g a F m ks ep seed n).flatMap byC++mkz (s 5 - n) hzC⟩::⟨s 6,140,(vtL p q g ks ep (view%1000) (hOf (zN uW) (mdH p q g a F m ks ep seed n)) k).flatMap vtC++mkz (s 7 - k) vtZ⟩::⟨s 8,70,(vaL p q (exN p g a) m ep (mdH p q g a F m ks ep seed n) n (fun i=>dqL q (frP seed ep i) (F+m))).flatMap byC++mkz (s 9 - m) hzC⟩::mdB (mdW p q g a F m ks ep seed n (fun j=>s (10+j)))
theorem dp (hn:n≤7) {v:Value} {L:List Ent} (h:afL p q g a F m ks ep ah seed view n k v L):Ex (mkV m ep ah n k) (mkL p q g a F m ks ep seed view n k) (fun s=>n≤s 5) v L:=by
 obtain⟨gl,cl,gs,cs,gh,ch,gv,cv,go,co,W,rfl,rfl,kW,_,hch⟩:=h;obtain⟨s,rfl⟩:=afY p q g a F m ks ep seed n hn kW;rw[afo];exact⟨fun j=>match j with|0=>gl|1=>cl|2=>gs|3=>cs|4=>gh|5=>ch|6=>gv|7=>cv|8=>go|9=>co|j+10=>s j,rfl,by
  unfold mkL;have e:(fun j=>(match 10+j with|0=>gl|1=>cl|2=>gs|3=>cs|4=>gh|5=>ch|6=>gv|7=>cv|8=>go|9=>co|j+10=>s j))=s:=by
   funext j;rw[Nat.add_comm]
  simp only[e],hch⟩
end
end Sx
end
section
open Go Go.RowKit Go.BigFrame
namespace Sx
attribute [local irreducible] DQ WC WO WX wd
theorem y6 {α:Type} {f:α→List Value} {k:Nat}:∀ {xs:List α},(∀ x∈xs,(f x).length=k)→(xs.flatMap f).length=xs.length*k
 | [],_=>by simp
 | a::r,h=>by
  rw[List.flatMap_cons,List.length_append,h a Sm,y6 (fun x hx=>h x (by simp[hx])),List.length_cons,Nat.add_mul,Nat.one_mul];omega
theorem mD {P:Program} {w0:World} {gs:LN} {K:List (Nat × Value)} {L:List Ent} {x y:Operand} {t yt ty e:TypeId} (hu:P.underlying t=some (.slice e)) (hx:ev K x=some (.slice none 0 0)) (hy:ev K y=some (.slice none 0 0)):Does P w0 gs K L (.binOp .eql t x y yt) ty (.bool true):=by
 intro a w hk _ o ho _;have h1:(eqGuard .eql t x y (.slice none 0 0) (.slice none 0 0)).run P w=.ok () w:=by unfold eqGuard;rfl
 have h4:∀ d,(Op.equalIn (d+1) t (.slice none 0 0) (.slice none 0 0)).run P w=.ok true w:=fun d=>by
  simp[Op.equalIn,underlying,hu]
 have h3:(Op.equalIn 10000 t (.slice none 0 0) (.slice none 0 0)).run P w=.ok true w:=h4 9999;have h2:(binOp .eql t (.slice none 0 0) (.slice none 0 0)).run P w=.ok (.bool true) w:=by
  simp only[binOp,Op.equal,Op.maxDepth,Sem.run_bind,h3,Result.andThen_ok,Sem.run_pure]
 simp only[execOp,ho,hk.eval hx,hk.eval hy,Sem.run_bind,h1,Result.andThen_ok,h2,Sem.run_pure]
section
open Kp
variable {P:Program} {w0:World} {gs:LN} {n:Nat} {fl:LN} {Q:Exit→Act→World→Prop} {ops:List Oper} {L0:List Ent}
variable {tail rest:List Oper} {i:Nat} {C:zT→Prop} {K:zT→List (Nat × Value)} {N:zT→List (Nat × Ent)}
variable {d:Nat} {op:Op} {ty:TypeId} {pos:String} {after:Array Edge} {gd:Option (Nat × Bool)}
theorem DQ.acallXT {f:FuncId} [Cal P f] {xs:Array Operand} {ats:Array TypeId} {vs:LV} {Rq:World→Prop} {vf:(Nat→Nat)→Value} {Nf:(Nat→Nat)→List Ent} {S:(Nat→Nat)→Prop} (hc:Fn P f vs Rq (Ex vf Nf S)) (hS:∃ x,S x) (hR:∀ w,Mr w0 gs L0 w→Rq w) (ha:∀ s,evs (K s) xs.toList=some vs:=by (intro s;rfl))
  (k:DQ P w0 gs n fl Q ops L0 tail (i+1) rest (fun s=>C s∧S (s i)) (fun s=>(d,vf (s i))::K s) (fun s=>(Nf (s i)).map (fun e=>(i,e))++N s))
  (hfl:fl.contains i=false:=by rfl) (hw:∀ s,wk ops (K s) gd=some true:=by intro _;rfl) (hd:Nat.blt d n=true:=by rfl) :
  DQ P w0 gs n fl Q ops L0 tail i (⟨some d,.call { callee:=.value (.func f),args:=xs,argTypes:=ats },ty,pos,after,gd⟩::rest) C K N :=
 DQ.callsE (fs:=fun _=>[]) (cs:=fun _=>[]) (R:=fun _=>Rq) (vf:=fun _ x=>vf x) (Nf:=fun _ x=>Nf x) (S:=fun _ x=>S x) (fun _=>[]) (fun _=>.nil)
  (fun _=>hS) (fun _ _=>hc) (fun _=>rfl) ha (fun _=>by simp) (fun _ _ w h=>hR w h) Dp.const Dp.const Dp.const k hfl hw hd
end
theorem eC {α:Type} {f:α→List Value} {K:Nat} (hf:∀ x,(f x).length=K) {N:List α} {k j:Nat} {x y:α} {r vs:LV} (hx:N[k]?=some x) (hj:∀ r,over (f x++r) j vs=f y++r):over (N.flatMap f++r) (k*K+j) vs=(N.set k y).flatMap f++r:=by
 obtain⟨hk,e⟩:=List.getElem?_eq_some_iff.1 hx;have h1:N=N.take k++x::N.drop (k+1):=by rw[← e,← List.drop_eq_getElem_cons hk,List.take_append_drop]
 have h2:N.set k y=N.take k++y::N.drop (k+1):=List.set_eq_take_append_cons_drop.trans (if_pos hk);rw[h2]
 conv=>lhs;rw[h1]
 simp only[List.flatMap_append,List.flatMap_cons,List.append_assoc];rw[vc (by rw[zF hf,List.length_take,Nat.min_eq_left Om]),hj]
theorem cr (l:List (List Nat)):(l.flatMap byC).all Value.oneCell'=true:=by
 rw[List.all_eq_true];intro x hx;obtain⟨H,_,h⟩:=List.mem_flatMap.1 hx;exact List.all_eq_true.1 (zM H) x h
theorem kw {α:Type} {f:α→List Value} {xs:List α} (h:∀ x∈xs,(f x).all Value.oneCell'=true):(xs.flatMap f).all Value.oneCell'=true:=by
 rw[List.all_flatMap];exact List.all_eq_true.2 h
section
variable (pt:Option Addr) (c:Nat)
theorem jt (xs:List (List Nat)) (h32:∀ X∈xs,X.length=32) (h0:0<xs.length) (hn:xs.length≤1000):Fn Tryz.prog 111 [.slice pt xs.length c] (RdF byC (.slice pt xs.length c) xs) (NwR 70 byC hzC xs):=by
 have hl:(xs.flatMap byC).length=xs.length*32:=y6 fun x hx=>by rw[zd,h32 x hx]
 refine Fn.enter Tryz.func111 rfl rfl rfl ?_;intro w hw;obtain⟨x,hx⟩ : ∃ x,xs[0]?=some x:=⟨_,List.getElem?_eq_getElem h0⟩;obtain⟨b,o,rfl,_,hs⟩:=id hw |>.get hx
 repeat (first|refine WO.does (yE (e:=70) Tryz.underlying42 rfl rfl) ?_|refine Tj ?_|intro _|(refine WO.makes (zh (cs:=[]) rfl Dtt rfl) ?_;intro _)|refine Tc ?_|exact Tz)
 refine WO.appKZ (z:=hzC) (m:=xs.length) (l:=xs.length) rfl rfl rfl (xs:=[]) (ys:=xs.flatMap byC) rfl (Nat.le_refl _) Pk.a (RdF.rds hw rfl) hl (cr xs) (Nat.zero_add _) Om Dtt Om Dtt Dtt (fun g1 c1 a2 a3=>?_)
 repeat (first|refine Tk ?_|intro _|exact Tz)
 exact WX.ret1 rfl (zK rfl) [⟨g1,70,xs.flatMap byC++mkz (c1 - xs.length) hzC⟩] (by repeat (first|exact Lle.nil|refine Lle.c ?_)) ⟨fun j=>match j with|0=>g1|_=>c1,rfl,rfl,a3,a2⟩
theorem abK (xs:List Vt) (h32:∀ x∈xs,x.S.length=32) (h0:0<xs.length) (hn:xs.length≤1000):Fn Tryz.prog 113 [.slice pt xs.length c] (RdF vtC (.slice pt xs.length c) xs) (NwR 140 vtC vtZ xs):=by
 have hl:(xs.flatMap vtC).length=xs.length*44:=y6 fun x hx=>vO (h32 x hx);refine Fn.enter Tryz.func113 rfl rfl rfl ?_;intro w hw;obtain⟨x,hx⟩ : ∃ x,xs[0]?=some x:=⟨_,List.getElem?_eq_getElem h0⟩;obtain⟨b,o,rfl,_,hs⟩:=id hw |>.get hx
 repeat (first|refine WO.does (yE (e:=140) Tryz.underlying71 rfl rfl) ?_|refine Tj ?_|intro _|(refine WO.makes (zh (cs:=[]) rfl Dtt rfl) ?_;intro _)|refine Tc ?_|exact Tz)
 refine WO.appKZ (z:=vtZ) (m:=xs.length) (l:=xs.length) rfl rfl rfl (xs:=[]) (ys:=xs.flatMap vtC) rfl (Nat.le_refl _) Pk.a (RdF.rds hw rfl) hl (kw fun x _=>qf x) (Nat.zero_add _) Om Dtt Om Dtt Dtt (fun g1 c1 a2 a3=>?_)
 repeat (first|refine Tk ?_|intro _|exact Tz)
 exact WX.ret1 rfl (zK rfl) [⟨g1,140,xs.flatMap vtC++mkz (c1 - xs.length) vtZ⟩] (by repeat (first|exact Lle.nil|refine Lle.c ?_)) ⟨fun j=>match j with|0=>g1|_=>c1,rfl,rfl,a3,a2⟩
theorem abr (ep:Nat) (xs:List (Dd × Dk)) (h0:0<xs.length) (hn:xs.length≤1000):Fn Tryz.prog 115 [.slice pt xs.length c] (RdF (ddC ep) (.slice pt xs.length c) xs) (NwR 51 (ddC ep) dzC xs):=by
 have hl:(xs.flatMap (ddC ep)).length=xs.length*13:=y6 fun x _=>rfl;refine Fn.enter Tryz.func115 rfl rfl rfl ?_;intro w hw;obtain⟨x,hx⟩ : ∃ x,xs[0]?=some x:=⟨_,List.getElem?_eq_getElem h0⟩;obtain⟨b,o,rfl,_,hs⟩:=id hw |>.get hx
 repeat (first|refine WO.does (yE (e:=51) Tryz.underlying40 rfl rfl) ?_|refine Tj ?_|intro _|(refine WO.makes (zh (cs:=[]) rfl Dtt rfl) ?_;intro _)|refine Tc ?_|exact Tz)
 refine WO.appKZ (z:=dzC) (m:=xs.length) (l:=xs.length) rfl rfl rfl (xs:=[]) (ys:=xs.flatMap (ddC ep)) rfl (Nat.le_refl _) Pk.a (RdF.rds hw rfl) hl (kw fun x _=>rfl) (Nat.zero_add _) Om Dtt Om Dtt Dtt (fun g1 c1 a2 a3=>?_)
 repeat (first|refine Tk ?_|intro _|exact Tz)
 exact WX.ret1 rfl (zK rfl) [⟨g1,51,xs.flatMap (ddC ep)++mkz (c1 - xs.length) dzC⟩] (by repeat (first|exact Lle.nil|refine Lle.c ?_)) ⟨fun j=>match j with|0=>g1|_=>c1,rfl,rfl,a3,a2⟩
theorem abB (xs:List Sw) (h0:0<xs.length) (hn:xs.length≤1000):Fn Tryz.prog 119 [.slice pt xs.length c] (RdF swC (.slice pt xs.length c) xs) (NwR 53 swC swZ xs):=by
 have hl:(xs.flatMap swC).length=xs.length*3:=y6 fun x _=>rfl;refine Fn.enter Tryz.func119 rfl rfl rfl ?_;intro w hw;obtain⟨x,hx⟩ : ∃ x,xs[0]?=some x:=⟨_,List.getElem?_eq_getElem h0⟩;obtain⟨b,o,rfl,_,hs⟩:=id hw |>.get hx
 repeat (first|refine WO.does (yE (e:=53) Tryz.underlying45 rfl rfl) ?_|refine Tj ?_|intro _|(refine WO.makes (zh (cs:=[]) rfl Dtt rfl) ?_;intro _)|refine Tc ?_|exact Tz)
 refine WO.appKZ (z:=swZ) (m:=xs.length) (l:=xs.length) rfl rfl rfl (xs:=[]) (ys:=xs.flatMap swC) rfl (Nat.le_refl _) Pk.a (RdF.rds hw rfl) hl (kw fun x _=>rfl) (Nat.zero_add _) Om Dtt Om Dtt Dtt (fun g1 c1 a2 a3=>?_)
 repeat (first|refine Tk ?_|intro _|exact Tz)
 exact WX.ret1 rfl (zK rfl) [⟨g1,53,xs.flatMap swC++mkz (c1 - xs.length) swZ⟩] (by repeat (first|exact Lle.nil|refine Lle.c ?_)) ⟨fun j=>match j with|0=>g1|_=>c1,rfl,rfl,a3,a2⟩
theorem aab:Fn Tryz.prog 117 [.slice none 0 0] Tr (Is (.slice none 0 0)):=by
 refine Fn.enter Tryz.func117 rfl rfl rfl ?_;intro w hw
 repeat (first|refine WO.does (mD (e:=119) Tryz.underlying57 rfl rfl) ?_|refine Tj ?_|intro _|refine Tc ?_|exact Tz)
 done
theorem aev (p:Option Addr) (n:Nat) (hc:n≤c):Fn Tryz.prog 112 [.slice p n c] Tr (Is (.slice p n n)):=by
 refine Fn.enter Tryz.func112 rfl rfl rfl ?_;intro w hw
 repeat (first|refine WO.does (vz rfl rfl rfl hc) ?_|refine Tj ?_|intro _|refine Tc ?_|exact Tz)
 done
theorem adX (p:Option Addr) (n:Nat) (hc:n≤c):Fn Tryz.prog 118 [.slice p n c] Tr (Is (.slice p n n)):=by
 refine Fn.enter Tryz.func118 rfl rfl rfl ?_;intro w hw
 repeat (first|refine WO.does (vz rfl rfl rfl hc) ?_|refine Tj ?_|intro _|refine Tc ?_|exact Tz)
 done
theorem adJ (p:Option Addr) (n:Nat) (hc:n≤c):Fn Tryz.prog 116 [.slice p n c] Tr (Is (.slice p n n)):=by
 refine Fn.enter Tryz.func116 rfl rfl rfl ?_;intro w hw
 repeat (first|refine WO.does (vz rfl rfl rfl hc) ?_|refine Tj ?_|intro _|refine Tc ?_|exact Tz)
 done
end
def whC (ep:Nat) (ah:LN) (cep:Nat) (sD sV sO l o s:Value):List Value:=.int .u64 (ep:Int)::(byC ah++[.int .u64 (cep:Int),sD,sV,sO,l,o,s])
section
variable {ep cep:Nat} {ah:LN} {sD sV sO l o s:Value}
theorem y9 (h:ah.length=32):(whC ep ah cep sD sV sO l o s).length=40:=by unfold whC;rw[List.length_cons,List.length_append,zd,h];rfl
theorem su (h:ah.length=32) (j:Nat):(whC ep ah cep sD sV sO l o s)[33+j]?=[.int .u64 (cep:Int),sD,sV,sO,l,o,s][j]?:=by
 have hb:(byC ah).length=32:=by rw[zd,h]
 unfold whC;rw[show 33+j=(32+j)+1 from by omega,List.getElem?_cons_succ,List.getElem?_append_right Om,hb,Nat.add_sub_cancel_left]
theorem so (h:ah.length=32) (j:Nat) (v:Value):over (whC ep ah cep sD sV sO l o s) (33+j) [v]=.int .u64 (ep:Int)::(byC ah++over [.int .u64 (cep:Int),sD,sV,sO,l,o,s] j [v]):=by
 have hb:(byC ah).length+1=33:=by rw[zd,h]
 unfold whC;rw[← List.cons_append,vc (A:=.int .u64 (ep:Int)::byC ah) (n:=33) (by rw[List.length_cons];exact hb)];rfl
theorem ad8 {x:Value} (h:ah.length=32):over (whC ep ah cep sD sV sO l o s) 34 [x]=whC ep ah cep x sV sO l o s:=so h 1 x
theorem adf {x:Value} (h:ah.length=32):over (whC ep ah cep sD sV sO l o s) 35 [x]=whC ep ah cep sD x sO l o s:=so h 2 x
theorem ac5 {x:Value} (h:ah.length=32):over (whC ep ah cep sD sV sO l o s) 36 [x]=whC ep ah cep sD sV x l o s:=so h 3 x
theorem aeW {x:Value} (h:ah.length=32):over (whC ep ah cep sD sV sO l o s) 37 [x]=whC ep ah cep sD sV sO x o s:=so h 4 x
theorem ac0 {x:Value} (h:ah.length=32):over (whC ep ah cep sD sV sO l o s) 38 [x]=whC ep ah cep sD sV sO l x s:=so h 5 x
theorem ael {x:Value} (h:ah.length=32):over (whC ep ah cep sD sV sO l o s) 39 [x]=whC ep ah cep sD sV sO l o x:=so h 6 x
theorem dD (h1:sD.oneCell'=true) (h2:sV.oneCell'=true) (h3:sO.oneCell'=true) (h4:l.oneCell'=true) (h5:o.oneCell'=true) (h6:s.oneCell'=true):(whC ep ah cep sD sV sO l o s).all Value.oneCell'=true:=by
 unfold whC;rw[List.all_cons,List.all_append,zM];simp[h1,h2,h3,h4,h5,h6];exact⟨rfl,rfl⟩
theorem aeD:bkC ep ah cep sD sV sO++[l,o,s]=whC ep ah cep sD sV sO l o s:=by unfold bkC whC;simp
end
abbrev whZ:List Value:=.int .u64 0::(List.replicate 32 (.int .u8 0)++[.int .u64 0,.slice none 0 0,.slice none 0 0,.slice none 0 0,.slice none 0 0,.slice none 0 0,.slice none 0 0])
def ddM (M:List Ent) (T:List (Dd × Dk)):Prop:=∀ w:World,(∀ e∈M,e.ok w)→∀ y∈T,fQ w y.1 y.2
def swM (M:List Ent) (S:List Sw):Prop:=∀ w:World,(∀ e∈M,e.ok w)→∀ x∈S,RdF zc (.slice x.pt x.P.length x.c) x.P w
def TwP (ep:Nat) (ah:LN) (cep:Nat) (HL:List (List Nat)) (VL:List Vt) (OL:List (List Nat)) (T:List (Dd × Dk)) (SH:List Sw):Value→List Ent→Prop:=fun v L =>
 ∃ gh rh gv rv go ro gl rl gs rs T' S' M,v=.agg (whC ep ah cep (AQ gh HL.length HL.length) (AQ gv VL.length VL.length) (AQ go OL.length OL.length) (AQ gl T.length T.length) (.slice none 0 0) (AQ gs SH.length SH.length)).toArray ∧
  L=⟨gh,70,HL.flatMap byC++mkz rh hzC⟩::⟨gv,140,VL.flatMap vtC++mkz rv vtZ⟩::⟨go,70,OL.flatMap byC++mkz ro hzC⟩::⟨gl,51,T'.flatMap (ddC ep)++mkz rl dzC⟩::⟨gs,53,S'.flatMap swC++mkz rs swZ⟩::M ∧
  T'.map Prod.fst=T.map Prod.fst∧S'.map (fun x=>(x.e,x.d,x.P))=SH.map (fun x=>(x.e,x.d,x.P))∧(∀ x∈S',x.c=x.P.length)∧ddM M T'∧swM M S'
theorem k8 {α:Type} {l:List α} {i:Nat} {x:α} (h:l[i]?=some x):l.set i x=l:=by
 refine List.ext_getElem? fun j=>?_;rw[List.getElem?_set];split
 ·next e=>subst e;rw[h];simp[(List.getElem?_eq_some_iff.1 h).1]
 ·rfl
theorem qg {α:Type} {l:List α} {i:Nat} {x:α} (h:i<l.length):(l.set i x).take (i+1)=l.take i++[x]:=by
 rw[List.take_add_one,List.getElem?_set_self h,List.take_set_of_le (Nat.le_refl _)];rfl
theorem ddM.nil {M:List Ent}:ddM M []:=fun _ _ _ h=>by cases h
theorem swM.nil {M:List Ent}:swM M []:=fun _ _ _ h=>by cases h
theorem ddM.snoc {M:List Ent} {T:List (Dd × Dk)} {y:Dd × Dk} (h:ddM M T):ddM (ddL y.1 y.2++M) (T++[y]):=fun w he x hx=>by
 rcases List.mem_append.1 hx with hx|hx
 ·exact h w (fun e h1=>he e (List.mem_append_right _ h1)) x hx
 ·rw[List.mem_singleton.1 hx];exact fQ.of fun e h1=>he e (List.mem_append_left _ h1)
theorem ddM.more {M R:List Ent} {T:List (Dd × Dk)} (h:ddM M T):ddM (R++M) T:=fun w he x hx=>h w (fun e h1=>he e (List.mem_append_right _ h1)) x hx
theorem swM.left {M R:List Ent} {S:List Sw} (h:swM M S):swM (M++R) S:=fun w he x hx=>h w (fun e h1=>he e (List.mem_append_left _ h1)) x hx
theorem swM.snoc {M:List Ent} {S:List Sw} {x:Sw} {g r:Nat} (h:swM M S) (hp:x.pt=some ⟨g,0,none⟩):swM (⟨g,24,x.P.flatMap zc++mkz r (zc 0)⟩::M) (S++[x]):=fun w he z hz=>by
 rcases List.mem_append.1 hz with hz|hz
 ·exact h w (fun e h1=>he e (List.mem_cons_of_mem _ h1)) z hz
 ·rw[List.mem_singleton.1 hz,hp];have:=Ent.ok.seg (he _ (List.mem_cons_self ..)) 0;rw[List.drop_zero] at this;exact RdF.ownO this rfl
section
variable (ep:Nat) (ah:LN) (cep:Nat) (pH pV pO pD pS:Option Addr) (cH cV cO cD cS:Nat) (HL:List (List Nat)) (VL:List Vt) (OL:List (List Nat)) (T:List (Dd × Dk)) (SH:List Sw)
theorem dI (hal:ah.length=32) (h1:0<HL.length∧HL.length≤1000) (h1b:∀ X∈HL,X.length=32) (h2:0<VL.length∧VL.length≤1000) (h2b:∀ x∈VL,x.S.length=32) (h3:0<OL.length∧OL.length≤1000) (h3b:∀ X∈OL,X.length=32)
  (h4:0<T.length∧T.length≤1000) (h4b:∀ y∈T,fG y.1) (h5:0<SH.length∧SH.length≤1000) (h5b:∀ x∈SH,0<x.P.length∧x.P.length≤1000) :
  Fn Tryz.prog 51 [.agg (whC ep ah cep (.slice pH HL.length cH) (.slice pV VL.length cV) (.slice pO OL.length cO) (.slice pD T.length cD) (.slice none 0 0) (.slice pS SH.length cS)).toArray]
   (fun w=>RdF byC (.slice pH HL.length cH) HL w∧RdF vtC (.slice pV VL.length cV) VL w∧RdF byC (.slice pO OL.length cO) OL w∧EvR ep pD cD T none 0 [] pS cS SH w) (TwP ep ah cep HL VL OL T SH):=by
 have k1:=jt pH cH HL h1b h1.1 h1.2;have k2:=abK pV cV VL h2b h2.1 h2.2;have k3:=jt pO cO OL h3b h3.1 h3.2;have k4:=abr pD cD ep T h4.1 h4.2;have k5:=abB pS cS SH h5.1 h5.2;have hwh:=y9 (ep:=ep) (cep:=cep) (sD:=.slice pH HL.length cH) (sV:=.slice pV VL.length cV) (sO:=.slice pO OL.length cO) (l:=.slice pD T.length cD) (o:=.slice none 0 0) (s:=.slice pS SH.length cS) hal;refine Fn.enter Tryz.func51 rfl rfl rfl ?_;intro w hw;obtain⟨wH,wV,wO,wE⟩:=hw
 repeat (first|refine Tk ?_|intro _|exact Tz)
 rename_i gW gR;refine WC.adraw 20 (k:=?_)
 iterate 3 refine Dx ?_
 refine DQ.does (fun s _=>zx (hc:=su hal 1)) Dp.const ?_;refine DQ.acallXT (hc:=k1) (hS:=⟨fun _=>HL.length,Nat.le_refl _,by show HL.length<9223372036854775808;omega⟩) (hR:=fun w1 hm=>wH.mod hm.mod) (k:=?_);refine DQ.call (v:=fun s=>AQ (s 4 0) HL.length HL.length) (fun s hC=>kP (s 4 1) (some ⟨s 4 0,0,none⟩) HL.length hC.2.1) (fun s=>rfl) (fun _ _ _ _=>trivial) (by intro s s' h;dsimp only;rw[h]<;>decide +kernel) ?_
 iterate 3 refine Dx ?_
 refine DQ.does (fun s _=>zx (hc:=su hal 2)) Dp.const ?_;refine DQ.acallXT (hc:=k2) (hS:=⟨fun _=>VL.length,Nat.le_refl _,by show VL.length<9223372036854775808;omega⟩) (hR:=fun w1 hm=>wV.mod hm.mod) (k:=?_);refine DQ.call (v:=fun s=>AQ (s 10 0) VL.length VL.length) (fun s hC=>aev (s 10 1) (some ⟨s 10 0,0,none⟩) VL.length hC.2.1) (fun s=>rfl) (fun _ _ _ _=>trivial) (by intro s s' h;dsimp only;rw[h]<;>decide +kernel) ?_
 iterate 2 refine Dx ?_
 refine DQ.does (fun s _=>zx (hc:=su hal 3)) Dp.const ?_;refine DQ.acallXT (hc:=k3) (hS:=⟨fun _=>OL.length,Nat.le_refl _,by show OL.length<9223372036854775808;omega⟩) (hR:=fun w1 hm=>wO.mod hm.mod) (k:=?_);refine DQ.call (v:=fun s=>AQ (s 15 0) OL.length OL.length) (fun s hC=>kP (s 15 1) (some ⟨s 15 0,0,none⟩) OL.length hC.2.1) (fun s=>rfl) (fun _ _ _ _=>trivial) (by intro s s' h;dsimp only;rw[h]<;>decide +kernel) ?_
 iterate 3 refine Dx ?_
 refine DQ.anil (k:=?_);intro sx _
 try simp only[List.map_cons,List.map_nil,List.cons_append,List.nil_append]
 generalize sx 4 0=gh;generalize sx 4 1 - HL.length=rh;generalize sx 10 0=gv;generalize sx 10 1 - VL.length=rv;generalize sx 15 0=go;generalize sx 15 1 - OL.length=ro
 repeat (first|refine WO.stores (zo (vs:=[AQ gh HL.length HL.length]) (hc:=ad8 hal) (hle:=by rw[y9 hal];rfl)) ?_|refine WO.stores (zo (vs:=[AQ gv VL.length VL.length]) (hc:=adf hal) (hle:=by rw[y9 hal];rfl)) ?_|refine WO.stores (zo (vs:=[AQ go OL.length OL.length]) (hc:=ac5 hal) (hle:=by rw[y9 hal];rfl)) ?_|refine Tj ?_|intro _|refine Tc ?_|exact Tz)
 refine WC.adraw 17 (k:=?_)
 iterate 2 refine Dx ?_
 refine DQ.does (fun s _=>zx (hc:=su hal 4)) Dp.const ?_;refine DQ.acallXT (hc:=k4) (hS:=⟨fun _=>T.length,Nat.le_refl _,by show T.length<9223372036854775808;omega⟩) (hR:=fun w1 hm=>wE.d.mod hm.mod) (k:=?_);refine DQ.call (v:=fun s=>AQ (s 3 0) T.length T.length) (fun s hC=>acW (s 3 1) (some ⟨s 3 0,0,none⟩) T.length hC.2.1) (fun s=>rfl) (fun _ _ _ _=>trivial) (by intro s s' h;dsimp only;rw[h]<;>decide +kernel) ?_
 iterate 2 refine Dx ?_
 refine DQ.does (fun s _=>zx (hc:=su hal 5)) Dp.const ?_;refine DQ.acall (hc:=aab) (k:=?_);refine DQ.acall (hc:=adJ 0 none 0 (Nat.le_refl _)) (k:=?_)
 iterate 2 refine Dx ?_
 refine DQ.does (fun s _=>zx (hc:=su hal 6)) Dp.const ?_;refine DQ.acallXT (hc:=k5) (hS:=⟨fun _=>SH.length,Nat.le_refl _,by show SH.length<9223372036854775808;omega⟩) (hR:=fun w1 hm=>wE.s.mod hm.mod) (k:=?_);refine DQ.call (v:=fun s=>AQ (s 13 0) SH.length SH.length) (fun s hC=>adX (s 13 1) (some ⟨s 13 0,0,none⟩) SH.length hC.2.1) (fun s=>rfl) (fun _ _ _ _=>trivial) (by intro s s' h;dsimp only;rw[h]<;>decide +kernel) ?_
 iterate 2 refine Dx ?_
 refine DQ.anil (k:=?_);intro sx _
 try simp only[List.map_cons,List.map_nil,List.cons_append,List.nil_append]
 generalize sx 3 0=gl;generalize sx 3 1 - T.length=rl;generalize sx 13 0=gs;generalize sx 13 1 - SH.length=rs
 repeat (first|refine WO.stores (zo (vs:=[AQ gl T.length T.length]) (hc:=aeW hal) (hle:=by rw[y9 hal];rfl)) ?_|refine WO.stores (zo (vs:=[.slice none 0 0]) (hc:=ac0 hal) (hle:=by rw[y9 hal];rfl)) ?_|refine WO.stores (zo (vs:=[AQ gs SH.length SH.length]) (hc:=ael hal) (hle:=by rw[y9 hal];rfl)) ?_|refine WO.does (zx (hc:=su hal 4)) ?_|refine Tj ?_|intro _|refine Tc ?_|exact Tz)
 refine WC.loopI (σ:=Nat × List (Dd × Dk) × List Ent) (fun s=>s.1≤T.length∧s.2.1.length=T.length∧(∀ j,s.1≤j→s.2.1[j]?=T[j]?)∧s.2.1.map Prod.fst=T.map Prod.fst∧ddM s.2.2 (s.2.1.take s.1))
  (fun s=>[(1,Ap gW),(2,Ap gR),(55,AQ gl T.length T.length),(56,.int .i64 (T.length:Int)),(57,.int .i64 (s.1:Int))])
  (fun s=>⟨gl,51,s.2.1.flatMap (ddC ep)++mkz rl dzC⟩::⟨gW,144,whC ep ah cep (AQ gh HL.length HL.length) (AQ gv VL.length VL.length) (AQ go OL.length OL.length) (AQ gl T.length T.length) (.slice none 0 0) (AQ gs SH.length SH.length)⟩::⟨gR,144,whZ⟩::⟨go,70,OL.flatMap byC++mkz ro hzC⟩::⟨gv,140,VL.flatMap vtC++mkz rv vtZ⟩::⟨gh,70,HL.flatMap byC++mkz rh hzC⟩::⟨gs,53,SH.flatMap swC++mkz rs swZ⟩::s.2.2) (fun s=>T.length - s.1) (0,T,[]) (fun s hs=>?_) ⟨Nat.zero_le _,rfl,fun _ _=>rfl,rfl,ddM.nil⟩ (hl:=(by repeat (first|exact Lle.nil|exact Lle.same|refine Lle.cons Pk.a (by rfl) ?_|refine Lle.skip ?_)))
 ·obtain⟨i,Ti,M⟩:=s;obtain⟨hi,hTl,hTe,hTm,hM⟩:=hs
  try dsimp only at hi hTl hTe hTm hM ⊢
  by_cases hlt:i<T.length
  ·obtain⟨y,hy⟩ : ∃ y,T[i]?=some y:=⟨_,List.getElem?_eq_getElem hlt⟩;have hyi:=(hTe i (Nat.le_refl _)).trans hy;have hyT:=List.mem_of_getElem? hy;have hf:=h4b y hyT;have f1:0<y.1.V.length∧y.1.V.length≤1000:=⟨List.length_pos_iff.2 hf.v,by have:=hf.vl;omega⟩;have f2:0<y.1.Y.length∧y.1.Y.length≤1000:=⟨List.length_pos_iff.2 hf.y,by have:=hf.yl;omega⟩;have f3:0<y.1.P.length∧y.1.P.length≤1000:=⟨List.length_pos_iff.2 hf.p,by have:=hf.pl;omega⟩;have j1:=p8 (some ⟨y.2.v,0,none⟩) y.1.V.length y.1.V f1.1 f1.2;have j2:=p8 (some ⟨y.2.y,0,none⟩) y.1.Y.length y.1.Y f2.1 f2.2;have j3:=aR (some ⟨y.2.p,0,none⟩) y.1.P.length y.1.P f3.1 f3.2;have hadd:IntKind.i64.wrap ((i:Int)+1)=((i+1:Nat):Int):=zl Om Om Om;have hcy:∀ r,cut (Ti.flatMap (ddC ep)++r) (0+i*13) 13=ddC ep y:=fun r=>by
    rw[Nat.zero_add];exact ul (k:=13) (fun _ _=>rfl) hyi
   have hle:∀ (A:List (Dd × Dk)) (r:LV) (j:Nat),A.length=T.length→j<13→Nat.ble (0+i*13+j+1) (A.flatMap (ddC ep)++r).length=true:=fun A r j hA hj=>Nat.ble_eq_true_of_le (by rw[List.length_append,y6 (k:=13) (fun _ _=>rfl),hA];omega);have hov:∀ (A:List (Dd × Dk)) (a b:Dd × Dk) (j:Nat) (vs r:LV),A[i]?=some a→(∀ r,over (ddC ep a++r) j vs=ddC ep b++r)→over (A.flatMap (ddC ep)++r) (0+i*13+j) vs=(A.set i b).flatMap (ddC ep)++r:=fun A a b j vs r h1 h2=>by
    rw[Nat.zero_add];exact eC (K:=13) (fun _=>rfl) h1 h2
   have hse:∀ b,(Ti.set i b)[i]?=some b:=fun b=>List.getElem?_set_self Om
   repeat (first|refine Tk ?_|intro _|exact Tz)
   refine WC.dT rfl Om ?_
   repeat (first|refine WO.does (zb (o':=0+i*13) rfl rfl hlt rfl) ?_|refine WO.does (zw (vs:=ddC ep y) (hc:=hcy _) (hl:=rfl)) ?_|refine WO.stores (zo (vs:=ddC ep y) (cs':=ddC ep y) (hl:=rfl) (h1:=rfl) (hc:=zC rfl) (hle:=rfl)) ?_|refine Tj ?_|intro _|refine Tc ?_|exact Tz)
   rename_i gd;refine WC.mainV [14,15,18,19,22,23,26,29,32] [(0,.pointer (some ⟨gW,37,none⟩)),(1,.pointer (some ⟨gW,37,none⟩)),(2,AQ gl T.length T.length),(3,.int .i64 (i:Int)),(4,.pointer (some ⟨gW,37,none⟩)),(5,.pointer (some ⟨gW,37,none⟩)),(6,AQ gl T.length T.length),(7,.int .i64 (i:Int)),(8,.pointer (some ⟨gW,37,none⟩)),(9,.pointer (some ⟨gW,37,none⟩)),(10,AQ gl T.length T.length),(11,.int .i64 (i:Int)),(12,.pointer (some ⟨gd,2,none⟩)),(13,AQ y.2.v y.1.V.length y.1.V.length),(16,.pointer (some ⟨gd,3,none⟩)),(17,AQ y.2.y y.1.Y.length y.1.Y.length),(20,.pointer (some ⟨gd,4,none⟩)),(21,AQ y.2.p y.1.P.length y.1.P.length),(24,.pointer (some ⟨gl,0+i*13,none⟩)),(25,.pointer (some ⟨gl,0+i*13+2,none⟩)),(27,.pointer (some ⟨gl,0+i*13,none⟩)),(28,.pointer (some ⟨gl,0+i*13+3,none⟩)),(30,.pointer (some ⟨gl,0+i*13,none⟩)),(31,.pointer (some ⟨gl,0+i*13+4,none⟩))] Dtt ?_;refine WT.with [⟨gW,144,whC ep ah cep (AQ gh HL.length HL.length) (AQ gv VL.length VL.length) (AQ go OL.length OL.length) (AQ gl T.length T.length) (.slice none 0 0) (AQ gs SH.length SH.length)⟩,⟨gd,51,ddC ep y⟩] Kr (Tlv.auto (Tlv.auto (Tlv.d rfl (zx (hc:=su hal 4)) (Tlv.auto (Tlv.auto (Tlv.auto (Tlv.d rfl (zx (hc:=su hal 4)) (Tlv.auto (Tlv.auto (Tlv.auto (Tlv.d rfl (zx (hc:=su hal 4)) (Tlv.auto (Tlv.auto (Tlv.d rfl zx (Tlv.auto (Tlv.d rfl zx (Tlv.auto (Tlv.d rfl zx (Tlv.d rfl (zb (o':=0+i*13) rfl rfl hlt rfl) (Tlv.d rfl yv (Tlv.d rfl (zb (o':=0+i*13) rfl rfl hlt rfl) (Tlv.d rfl yv (Tlv.d rfl (zb (o':=0+i*13) rfl rfl hlt rfl) (Tlv.d rfl yv Tlv.nil)))))))))))))))))))))))) (fun hc hT=>?_)
   refine WT.one (m:=14) rfl hc hT ?_;refine WO.callsL (hc:=Fn.toL j1) (hp:=.nil) (hR:=fun wx hm=>(wE.a y hyT).v.mod hm.mod) (k:=fun v1 N1 hv=>?_);obtain⟨sx,rfl,rfl,hlgV,_⟩:=hv;simp only[List.cons_append,List.nil_append];generalize sx 0=gV at *;generalize sx 1=xV at *;refine WO.nil (WX.wt [(76,AQ gV y.1.V.length xV)] ?_);refine WT.one (m:=15) rfl hc hT ?_;refine WO.acall (hc:=kx xV (some ⟨gV,0,none⟩) y.1.V.length hlgV) (k:=?_);refine WO.nil (WX.wt [(77,AQ gV y.1.V.length y.1.V.length)] ?_);refine WT.one (m:=18) rfl hc hT ?_;refine WO.callsL (hc:=Fn.toL j2) (hp:=.nil) (hR:=fun wx hm=>(wE.a y hyT).y.mod hm.mod) (k:=fun v1 N1 hv=>?_);obtain⟨sx,rfl,rfl,hlgY,_⟩:=hv;simp only[List.cons_append,List.nil_append];generalize sx 0=gY at *;generalize sx 1=xY at *;refine WO.nil (WX.wt [(80,AQ gY y.1.Y.length xY)] ?_);refine WT.one (m:=19) rfl hc hT ?_;refine WO.acall (hc:=kx xY (some ⟨gY,0,none⟩) y.1.Y.length hlgY) (k:=?_);refine WO.nil (WX.wt [(81,AQ gY y.1.Y.length y.1.Y.length)] ?_);refine WT.one (m:=22) rfl hc hT ?_;refine WO.callsL (hc:=Fn.toL j3) (hp:=.nil) (hR:=fun wx hm=>(wE.a y hyT).p.mod hm.mod) (k:=fun v1 N1 hv=>?_);obtain⟨sx,rfl,rfl,hlgP,_⟩:=hv;simp only[List.cons_append,List.nil_append];generalize sx 0=gP at *;generalize sx 1=xP at *;refine WO.nil (WX.wt [(84,AQ gP y.1.P.length xP)] ?_);refine WT.one (m:=23) rfl hc hT ?_;refine WO.acall (hc:=aez xP (some ⟨gP,0,none⟩) y.1.P.length hlgP) (k:=?_);refine WO.nil (WX.wt [(85,AQ gP y.1.P.length y.1.P.length)] ?_);generalize xV - y.1.V.length=rV;generalize xY - y.1.Y.length=rY;generalize xP - y.1.P.length=rP;have q1:(Ti.set i (y.1,⟨gV,y.2.y,y.2.p,rV,y.2.ry,y.2.rp⟩))[i]?=some (y.1,⟨gV,y.2.y,y.2.p,rV,y.2.ry,y.2.rp⟩):=hse _;have q2:((Ti.set i (y.1,⟨gV,y.2.y,y.2.p,rV,y.2.ry,y.2.rp⟩)).set i (y.1,⟨gV,gY,y.2.p,rV,rY,y.2.rp⟩))[i]?=some (y.1,⟨gV,gY,y.2.p,rV,rY,y.2.rp⟩):=by rw[List.set_set];exact hse _
   refine WT.one (m:=26) rfl hc hT ?_;refine WO.stores (zo (vs:=[AQ gV y.1.V.length y.1.V.length]) (hc:=hov _ _ (y.1,⟨gV,y.2.y,y.2.p,rV,y.2.ry,y.2.rp⟩) 2 _ _ hyi (fun r=>rfl)) (hle:=hle _ _ 2 (by simp[hTl]) Dtt)) ?_;refine WO.nil (WX.wt [] ?_);refine WT.one (m:=29) rfl hc hT ?_;refine WO.stores (zo (vs:=[AQ gY y.1.Y.length y.1.Y.length]) (hc:=hov _ _ (y.1,⟨gV,gY,y.2.p,rV,rY,y.2.rp⟩) 3 _ _ q1 (fun r=>rfl)) (hle:=hle _ _ 3 (by simp[hTl]) Dtt)) ?_;refine WO.nil (WX.wt [] ?_);refine WT.one (m:=32) rfl hc hT ?_;refine WO.stores (zo (vs:=[AQ gP y.1.P.length y.1.P.length]) (hc:=hov _ _ (y.1,⟨gV,gY,gP,rV,rY,rP⟩) 4 _ _ q2 (fun r=>rfl)) (hle:=hle _ _ 4 (by simp[hTl]) Dtt)) ?_;refine WO.nil (WX.wt [] ?_);refine WT.fin [32] 6 hc rfl Kr ?_;clear hc hT;simp only[List.set_set]
   repeat (first|refine WO.does (zi rfl rfl hadd) ?_|refine Tj ?_|intro _|refine Tc ?_|exact Tz)
   refine WX.metI (i+1,Ti.set i (y.1,⟨gV,gY,gP,rV,rY,rP⟩),⟨gV,24,y.1.V.flatMap zc++mkz rV (zc 0)⟩::⟨gY,24,y.1.Y.flatMap zc++mkz rY (zc 0)⟩::⟨gP,117,y.1.P.flatMap pfC++mkz rP (vC 0 0)⟩::M) (hl:=(by repeat (first|exact Lle.nil|exact Lle.same|refine Lle.cons Pk.a (by rfl) ?_|refine Lle.skip ?_))) (hs:=⟨⟨?_,?_,?_,?_,?_⟩,by show T.length - (i+1)<T.length - i;omega⟩)
   ·show i+1≤T.length;omega
   ·show (Ti.set i _).length=_;rw[List.length_set,hTl]
   ·intro j hj;show (Ti.set i _)[j]?=_;rw[List.getElem?_set_ne (by have:i+1≤j:=hj;omega)];exact hTe j (by have:i+1≤j:=hj;omega)
   ·show (Ti.set i _).map Prod.fst=_;rw[List.map_set,hTm];exact k8 (by rw[List.getElem?_map,hy];rfl)
   ·show ddM _ ((Ti.set i _).take (i+1));rw[qg Om];exact ddM.snoc (y:=(y.1,⟨gV,gY,gP,rV,rY,rP⟩)) hM
  ·have hi2:i=T.length:=by omega
   subst hi2;rw[show Ti.take T.length=Ti from by rw[← hTl,List.take_length]] at hM
   repeat (first|refine Tk ?_|intro _|exact Tz)
   refine WC.dF rfl Om ?_
   repeat (first|refine WO.does (zx (hc:=su hal 6)) ?_|refine Tj ?_|intro _|refine Tc ?_|exact Tz)
   refine WC.loopI (σ:=Nat × List Sw × List Ent) (fun s=>s.1≤SH.length∧s.2.1.length=SH.length∧(∀ j,s.1≤j→s.2.1[j]?=SH[j]?)∧s.2.1.map (fun x=>(x.e,x.d,x.P))=SH.map (fun x=>(x.e,x.d,x.P))∧swM s.2.2 (s.2.1.take s.1)∧(∀ x∈s.2.1.take s.1,x.c=x.P.length))
    (fun s=>[(1,Ap gW),(2,Ap gR),(95,AQ gs SH.length SH.length),(96,.int .i64 (SH.length:Int)),(97,.int .i64 (s.1:Int))])
    (fun s=>⟨gs,53,s.2.1.flatMap swC++mkz rs swZ⟩::⟨gW,144,whC ep ah cep (AQ gh HL.length HL.length) (AQ gv VL.length VL.length) (AQ go OL.length OL.length) (AQ gl T.length T.length) (.slice none 0 0) (AQ gs SH.length SH.length)⟩::⟨gR,144,whZ⟩::⟨go,70,OL.flatMap byC++mkz ro hzC⟩::⟨gv,140,VL.flatMap vtC++mkz rv vtZ⟩::⟨gh,70,HL.flatMap byC++mkz rh hzC⟩::⟨gl,51,Ti.flatMap (ddC ep)++mkz rl dzC⟩::(s.2.2++M)) (fun s=>SH.length - s.1) (0,SH,[]) (fun s hs=>?_) ⟨Nat.zero_le _,rfl,fun _ _=>rfl,rfl,swM.nil,fun _ h=>by cases h⟩ (hl:=(by repeat (first|exact Lle.nil|exact Lle.same|refine Lle.cons Pk.a (by rfl) ?_|refine Lle.skip ?_)))
   obtain⟨i,Si,M2⟩:=s;obtain⟨hi,hSl,hSe,hSm,hM2,hSc⟩:=hs
   try dsimp only at hi hSl hSe hSm hM2 hSc ⊢
   by_cases hlt:i<SH.length
   ·obtain⟨x,hx⟩ : ∃ x,SH[i]?=some x:=⟨_,List.getElem?_eq_getElem hlt⟩;have hxi:=(hSe i (Nat.le_refl _)).trans hx;have hxS:=List.mem_of_getElem? hx;have hf:=h5b x hxS;have j1:=p8 x.pt x.c x.P hf.1 hf.2;have hadd:IntKind.i64.wrap ((i:Int)+1)=((i+1:Nat):Int):=zl Om Om Om;have hcx:∀ r,cut (Si.flatMap swC++r) (0+i*3) 3=swC x:=fun r=>by
     rw[Nat.zero_add];exact ul (k:=3) (fun _ _=>rfl) hxi
    have hle:∀ (r:LV),Nat.ble (i*3+2+1) (Si.flatMap swC++r).length=true:=fun r=>Nat.ble_eq_true_of_le (by rw[List.length_append,y6 (k:=3) (fun _ _=>rfl),hSl];omega);have hov:∀ (g:Nat) (r:LV),over (Si.flatMap swC++r) (i*3+2) [AQ g x.P.length x.P.length]=(Si.set i ⟨x.e,x.d,some ⟨g,0,none⟩,x.P,x.P.length⟩).flatMap swC++r:=fun g r=>by
     exact eC (K:=3) (fun _=>rfl) hxi (fun r=>rfl)
    repeat (first|refine Tk ?_|intro _|exact Tz)
    refine WC.dT rfl Om ?_
    repeat (first|refine WO.does (zb (o':=0+i*3) rfl rfl hlt rfl) ?_|refine WO.does (zw (vs:=swC x) (hc:=hcx _) (hl:=rfl)) ?_|refine WO.stores (zo (vs:=swC x) (cs':=swC x) (hl:=rfl) (h1:=rfl) (hc:=zC rfl) (hle:=rfl)) ?_|refine Tj ?_|intro _|refine Tc ?_|exact Tz)
    refine WC.adraw 8 (k:=?_)
    iterate 2 refine Dx ?_
    refine DQ.does (fun s _=>zx (hc:=su hal 6)) Dp.const ?_
    iterate 3 refine Dx ?_
    refine DQ.acallXT (hc:=j1) (hS:=⟨fun _=>x.P.length,Nat.le_refl _,by show x.P.length<9223372036854775808;omega⟩) (hR:=fun w1 hm=>(wE.p x hxS).mod hm.mod) (k:=?_);refine DQ.call (v:=fun s=>AQ (s 6 0) x.P.length x.P.length) (fun s hC=>kx (s 6 1) (some ⟨s 6 0,0,none⟩) x.P.length hC.2.1) (fun s=>rfl) (fun _ _ _ _=>trivial) (by intro s s' h;dsimp only;rw[h]<;>decide +kernel) ?_;refine DQ.anil (k:=?_);intro sx _
    try simp only[List.map_cons,List.map_nil,List.cons_append,List.nil_append]
    generalize sx 6 0=gP;generalize sx 6 1 - x.P.length=rP
    repeat (first|refine WO.does (zb (o':=0+i*3) rfl rfl hlt rfl) ?_|refine WO.stores (zo (vs:=[AQ gP x.P.length x.P.length]) (hc:=hov _ _) (hle:=hle _)) ?_|refine WO.does (zi rfl rfl hadd) ?_|refine Tj ?_|intro _|refine Tc ?_|exact Tz)
    refine WX.metI ((i+1,Si.set i ⟨x.e,x.d,some ⟨gP,0,none⟩,x.P,x.P.length⟩,⟨gP,24,x.P.flatMap zc++mkz rP (zc 0)⟩::M2):Nat × List Sw × List Ent) (hl:=(by repeat (first|exact Lle.nil|exact Lle.same|refine Lle.cons Pk.a (by rfl) ?_|refine Lle.skip ?_))) (hs:=⟨⟨?_,?_,?_,?_,?_,?_⟩,by show SH.length - (i+1)<SH.length - i;omega⟩)
    ·show i+1≤SH.length;omega
    ·show (Si.set i _).length=_;rw[List.length_set,hSl]
    ·intro j hj;show (Si.set i _)[j]?=_;rw[List.getElem?_set_ne (by have:i+1≤j:=hj;omega)];exact hSe j (by have:i+1≤j:=hj;omega)
    ·show (Si.set i _).map _=_;rw[List.map_set,hSm];exact k8 (by rw[List.getElem?_map,hx];rfl)
    ·show swM _ ((Si.set i _).take (i+1));rw[qg Om];exact swM.snoc (x:=⟨x.e,x.d,some ⟨gP,0,none⟩,x.P,x.P.length⟩) hM2 rfl
    ·show ∀ z∈(Si.set i _).take (i+1),_;rw[qg Om];intro z hz
     rcases List.mem_append.1 hz with hz|hz
     ·exact hSc z hz
     ·rw[List.mem_singleton.1 hz]
   have hi2:i=SH.length:=by omega
   subst hi2;rw[show Si.take SH.length=Si from by rw[← hSl,List.take_length]] at hM2 hSc
   repeat (first|refine Tk ?_|intro _|exact Tz)
   refine WC.dF rfl Om ?_
   repeat (first|refine WO.does (zw (vs:=whC ep ah cep (AQ gh HL.length HL.length) (AQ gv VL.length VL.length) (AQ go OL.length OL.length) (AQ gl T.length T.length) (.slice none 0 0) (AQ gs SH.length SH.length)) (hc:=zt (y9 hal)) (hl:=y9 hal)) ?_|refine WO.stores (zo (vs:=whC ep ah cep (AQ gh HL.length HL.length) (AQ gv VL.length VL.length) (AQ go OL.length OL.length) (AQ gl T.length T.length) (.slice none 0 0) (AQ gs SH.length SH.length)) (cs':=whC ep ah cep (AQ gh HL.length HL.length) (AQ gv VL.length VL.length) (AQ go OL.length OL.length) (AQ gl T.length T.length) (.slice none 0 0) (AQ gs SH.length SH.length)) (hl:=y9 hal) (h1:=dD rfl rfl rfl rfl rfl rfl) (hc:=zC (by rw[y9 hal];rfl)) (hle:=by rw[y9 hal];rfl)) ?_|refine Tj ?_|intro _|refine Tc ?_|exact Tz)
   exact WX.ret1 rfl (zW rfl Hs.a (zt (y9 hal)) (y9 hal)) (⟨gh,70,HL.flatMap byC++mkz rh hzC⟩::⟨gv,140,VL.flatMap vtC++mkz rv vtZ⟩::⟨go,70,OL.flatMap byC++mkz ro hzC⟩::⟨gl,51,Ti.flatMap (ddC ep)++mkz rl dzC⟩::⟨gs,53,Si.flatMap swC++mkz rs swZ⟩::(M2++M)) (by repeat (first|exact Lle.nil|exact Lle.same|refine Lle.cons Pk.a (by rfl) ?_|refine Lle.skip ?_))
    ⟨gh,rh,gv,rv,go,ro,gl,rl,gs,rs,Ti,Si,M2++M,rfl,rfl,hTm,hSm,hSc,hM.more,hM2.left⟩
end
end Sx
end
section
open Go Go.RowKit Go.BigFrame
namespace Sx
attribute [local irreducible] DQ WC WO WT WX yN ddH gnH hOf voH vtS wd
section
variable (p q g a F m:Nat) (ks:LP) (pt:Option Addr) (c ep:Nat) (ah:LN) (seed v n Qm:Nat) (HL:List (List Nat)) (W:List ((Dd × Dk) × Nw)) (gh ch gv cv go gl cl gs cs:Nat)
theorem afz (hcs:sc p q g a (F:Int) (m:Int) ks) (hp:p<ze) (hq:q<ze) (hg:g<ze) (hep:ep<18446744073709551616) (hal:ah.length=32) (hab:∀ b∈ah,b<256) (hv:v<1000) (h3F:3*F+1≤ks.length) (hn:ks.length - F=n) (hQm:(ks.length+F) / 2+1=Qm)
  (kW:tv p q g a F m ks ep (frR seed ep) n W) (hHL:(W.map fun x=>ddH ep x.1.1)=HL) :
  Fn Tryz.prog 25 [stV p q g (exN p g a) (F:Int) (m:Int) (.slice pt ks.length c),.agg (byC ah).toArray,.agg (bkC ep ah ep (AQ gh n ch) (AQ gv Qm cv) (AQ go m m)).toArray,evV (AQ gl n cl) (.slice none 0 0) (AQ gs n cs)]
   (fun w=>RdF ya (.slice pt ks.length c) (csN p g a ks) w∧EvR ep (some ⟨gl,0,none⟩) cl (W.map Prod.fst) none 0 [] (some ⟨gs,0,none⟩) cs (W.map (swW ep)) w∧RdF byC (AQ gh n ch) HL w∧RdF vtC (AQ gv Qm cv) (vtL p q g ks ep v (hOf (zN uW) HL) Qm) w∧RdF byC (AQ go m m) (vaL p q (exN p g a) m ep HL n (fun i=>dqL q (frP seed ep i) (F+m))) w∧uY w) (Is (.int .i64 0)):=by
 have hNl2:=yW p g a ks;have hk7:=hcs.len;have hWl:=kW.len;have hTl:(W.map Prod.fst).length=n:=by rw[List.length_map,hWl]
 have hSl:(W.map (swW ep)).length=n:=by rw[List.length_map,hWl]
 have hHl:HL.length=n:=by rw[← hHL,List.length_map,hWl]
 have hE:=rD hcs hp hq kW Om;have hVt:=jW hcs hq (ep:=ep) (v:=v) (n:=Qm) (S:=hOf (zN uW) HL) hep hv (zI _ _) (yX _ _) Om
 have h:=eF p q g (exN p g a) F m pt c (csN p g a ks) ep ah (some ⟨gh,0,none⟩) ch HL (some ⟨gv,0,none⟩) cv (vtL p q g ks ep v (hOf (zN uW) HL) Qm) (some ⟨go,0,none⟩) m (vaL p q (exN p g a) m ep HL n (fun i=>dqL q (frP seed ep i) (F+m))) (some ⟨gl,0,none⟩) cl (W.map Prod.fst) none 0 (some ⟨gs,0,none⟩) cs (W.map (swW ep)) v 0 (fun i=>dqL q (frP seed ep i) (F+m)) hp hq hg (ub hp) (sL hp) Om hcs.set hep hal hab
  (by rw[hHl,hTl]) (by rw[← hHL];exact kW.hs) Om Om hE.d Om hVt (by rw[uP];omega) (by rw[uP];omega) Dtt (by rw[uP,hNl2];omega) (uZ _ _ _ _ _ _ _ _) qW Om hE.sn hE.wy hE.wb
 rw[hTl,hSl,uZ,uP,hNl2,decide_eq_true rfl] at h;exact h
end
end Sx
end
end Go.Proofs.YtiaibpcaloigkaaGreatDoor
