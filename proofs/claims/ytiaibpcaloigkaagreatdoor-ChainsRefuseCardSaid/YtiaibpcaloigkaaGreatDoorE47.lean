/- Part 47 of the proof. -/
import Derived.Test.YtiaibpcaloigkaaGreatDoorE45
import Derived.Test.YtiaibpcaloigkaaGreatDoorE46
set_option linter.unusedSimpArgs false
set_option linter.unusedVariables false
set_option maxHeartbeats 8000000
namespace Go.Proofs.YtiaibpcaloigkaaGreatDoor
section
open Go Go.RowKit Go.BigFrame
namespace Sx
def vtM (p q g:Nat) (ks:LP) (ep v:Nat) (S:LN) (i:Nat):Vt:=⟨ep,v,i+1,S,(vtS p q g (ks.getD i (0,0)).1 (voH ⟨ep,v,i+1,S,0,0⟩)).1,(vtS p q g (ks.getD i (0,0)).1 (voH ⟨ep,v,i+1,S,0,0⟩)).2⟩
def vtL (p q g:Nat) (ks:LP) (ep v:Nat) (S:LN) (n:Nat):List Vt:=(List.range n).map (vtM p q g ks ep v S)
theorem yS {p q g:Nat} {ks:LP} {ep v:Nat} {S:LN} {n:Nat}:(vtL p q g ks ep v S n).length=n:=by simp[vtL]
theorem aZ (p q g:Nat) (ks:LP) (ep v:Nat) (S:LN) (n:Nat):vtL p q g ks ep v S (n+1)=vtL p q g ks ep v S n++[vtM p q g ks ep v S n]:=by unfold vtL;rw[yN]
theorem ag5 (ep v n:Nat) (S:LN) (c s:Nat):voH ⟨ep,v,n,S,c,s⟩=voH ⟨ep,v,n,S,0,0⟩:=rfl
theorem pv {p q g a F m:Nat} {ks:LP} (hc:tY p q g a (F:Int) (m:Int) ks) (hq:q<ze) {ep v n:Nat} {S:LN} (hep:ep<18446744073709551616) (hv:v<1000) (hS:S.length=32) (hSb:∀ b∈S,b<256) (hn:n≤ks.length) :
  m7 p q g (csN p g a ks) ep v 0 S (vtL p q g ks ep v S n):=by
 have h7:=hc.len;have key:∀ x∈vtL p q g ks ep v S n,∃ i k,i<n∧ks[i]?=some k∧x=vtM p q g ks ep v S i∧x.c<q∧x.s<q∧qb p q g (exN p g k.1) x.c x.s (voH x)=true:=fun x hx=>by
  obtain⟨i,hi,rfl⟩:=List.mem_map.1 hx;have hin:=List.mem_range.1 hi;obtain⟨k,hk⟩ : ∃ k,ks[i]?=some k:=⟨_,List.getElem?_eq_getElem Om⟩;obtain⟨_,h2,h3,h4⟩:=eX hc hk (voH ⟨ep,v,i+1,S,0,0⟩);have e:(ks.getD i (0,0)).1=k.1:=by rw[List.getD_eq_getElem?_getD,hk];rfl
  refine⟨i,k,hin,hk,rfl,?_,?_,?_⟩
  ·show (vtS p q g (ks.getD i (0,0)).1 _).1<q;rw[e];exact h3
  ·show (vtS p q g (ks.getD i (0,0)).1 _).2<q;rw[e];exact h4
  ·have h0:∀ c s,qb p q g (exN p g k.1) c s (voH ⟨ep,v,i+1,S,c,s⟩)=qb p q g (exN p g k.1) c s (voH ⟨ep,v,i+1,S,0,0⟩):=fun c s=>congrArg _ (ag5 ep v (i+1) S c s);unfold vtM;rw[e];exact (h0 _ _).trans h2
 refine⟨fun i x hx=>?_,fun x hx=>?_,fun x hx=>?_⟩
 ·unfold vtL at hx;rw[List.getElem?_map] at hx;have hin:i<n:=by
   rcases Nat.lt_or_ge i n with h|h
   ·exact h
   ·rw[List.getElem?_eq_none (by simpa using h)] at hx;cases hx
  rw[List.getElem?_range hin] at hx;cases hx;exact⟨rfl,rfl,rfl,by show i+1=0+i+1;omega⟩
 ·obtain⟨i,k,h1,_,rfl,h2,h3,_⟩:=key x hx;exact⟨hep,hv,by show i+1<256;omega,hSb,hS,Nat.lt_trans h2 hq,Nat.lt_trans h3 hq⟩
 ·obtain⟨i,k,h1,hk,rfl,_,_,h4⟩:=key x hx;exact⟨csK p g (exN p g a) k,by show (csN p g a ks)[i+1 - 1]?=_;rw[Nat.add_sub_cancel];exact oI hk,h4⟩
def frP (seed ep i:Nat):List Nat:=[seed,i,seed / 7,3,ep%4294967296]
def frR (seed ep:Nat):List Rr:=(List.range 7).map fun i=>⟨none,frP seed ep i,0⟩
theorem aas {seed ep i:Nat} (hi:i<7):rrP (frR seed ep) i=frP seed ep i:=by
 unfold rrP frR;rw[List.getElem?_map,List.getElem?_range hi];rfl
theorem agm {seed ep i:Nat} (hs:seed<4294967296) (hi:i<7):∀ x∈frP seed ep i,x<4294967296:=by
 intro x hx;simp only[frP,List.mem_cons,List.not_mem_nil,or_false] at hx;omega
theorem yA {place:Nat→Option (Nat × Nat)} {i off size:Nat} {v:Value} {r:List (Nat × Value)} {cs vs:LV} (h:place i=some (off,size)) (hv:cellsOf v=vs) (hl:vs.length=size) (hle:Nat.ble (off+size) cs.length=true):um place cs ((i,v)::r)=um place (over cs off vs) r:=by
 subst hv;subst hl;have hb:Nat.beq (cellsOf v).length (cellsOf v).length=true:=Nat.beq_refl _;simp only[um,h,hb,hle,Bool.and_self,cond_true]
theorem tI {A C vs:LV} (h:A.length=vs.length):over (A++C) 0 vs=vs++C:=by
 unfold over;simp[← h]
theorem ji (H:LN):cellsOf (.agg (byC H).toArray)=byC H:=by simp[cellsOf]
abbrev vtZ:List Value:=[.int .u8 0,.int .u64 0,.int .u32 0,.int .u8 0]++List.replicate 32 (.int .u8 0)++[wZ 0 0,wZ 1 0,wZ 2 0,wZ 3 0,wZ 0 0,wZ 1 0,wZ 2 0,wZ 3 0]
theorem eh {ep v n:Nat} {S:LN} (h:S.length=32):um (nth [(0,1),(1,1),(2,1),(3,1),(4,32),(36,8)]) vtZ [(0,.int .u8 2),(1,.int .u64 (ep:Int)),(2,.int .u32 (v:Int)),(3,.int .u8 (n:Int)),(4,.agg (byC S).toArray)]=some (vtC ⟨ep,v,n,S,0,0⟩):=by
 rw[yA (off:=0) (size:=1) (vs:=[.int .u8 2]) rfl rfl rfl rfl,yA (off:=1) (size:=1) (vs:=[.int .u64 (ep:Int)]) rfl rfl rfl rfl,yA (off:=2) (size:=1) (vs:=[.int .u32 (v:Int)]) rfl rfl rfl rfl,yA (off:=3) (size:=1) (vs:=[.int .u8 (n:Int)]) rfl rfl rfl rfl,
  yA (off:=4) (size:=32) (vs:=byC S) rfl (ji S) (by rw[zd,h]) rfl]
 show some (over ([.int .u8 2,.int .u64 (ep:Int),.int .u32 (v:Int),.int .u8 (n:Int)]++(List.replicate 32 (.int .u8 0)++vK 0 0)) (4+0) (byC S))=_;rw[yK (n:=4) rfl,tI (by rw[zd,h];rfl)];rfl
abbrev bkZ:List Value:=[.int .u64 0]++List.replicate 32 (.int .u8 0)++[.int .u64 0,.slice none 0 0,.slice none 0 0,.slice none 0 0]
theorem iR {ep cep:Nat} {ah:LN} {sD sV:Value} (h:ah.length=32) (h1:cellsOf (.agg #[.int .u64 (cep:Int),sD,sV])=[.int .u64 (cep:Int),sD,sV]):um (nth [(0,1),(1,32),(33,3),(36,1)]) bkZ [(0,.int .u64 (ep:Int)),(1,.agg (byC ah).toArray),(2,.agg #[.int .u64 (cep:Int),sD,sV])]=some (bkC ep ah cep sD sV (.slice none 0 0)):=by
 have hb:(byC ah).length=32:=by rw[zd,h]
 rw[yA (off:=0) (size:=1) (vs:=[.int .u64 (ep:Int)]) rfl rfl rfl rfl,yA (off:=1) (size:=32) (vs:=byC ah) rfl (ji ah) hb rfl]
 rw[show over (over bkZ 0 [.int .u64 (ep:Int)]) 1 (byC ah)=(.int .u64 (ep:Int)::byC ah)++[.int .u64 0,.slice none 0 0,.slice none 0 0,.slice none 0 0] from by
  show over ([.int .u64 (ep:Int)]++(List.replicate 32 (.int .u8 0)++[.int .u64 0,.slice none 0 0,.slice none 0 0,.slice none 0 0])) (1+0) (byC ah)=_;rw[yK (n:=1) rfl,tI (by rw[hb];rfl)];rfl]
 rw[yA (off:=33) (size:=3) (vs:=[.int .u64 (cep:Int),sD,sV]) rfl h1 rfl (by rw[List.length_append,List.length_cons,hb];rfl)];show some (over _ (33+0) _)=_;rw[yK (by rw[List.length_cons,hb])];rfl
section
variable {ep cep:Nat} {ah:LN} {sD sV sO x:Value}
theorem bB (h:ah.length=32) (j:Nat) (vs:LV):over (bkC ep ah cep sD sV sO) (33+j) vs=(.int .u64 (ep:Int)::byC ah)++over [.int .u64 (cep:Int),sD,sV,sO] j vs:=by
 show over ((.int .u64 (ep:Int)::byC ah)++[.int .u64 (cep:Int),sD,sV,sO]) (33+j) vs=_;rw[yK (by rw[List.length_cons,zd,h])]
theorem e9 (h:ah.length=32):over (bkC ep ah cep sD sV sO) 35 [x]=bkC ep ah cep sD x sO:=bB h 2 [x]
theorem lQ (h:ah.length=32):over (bkC ep ah cep sD sV sO) 36 [x]=bkC ep ah cep sD sV x:=bB h 3 [x]
end
section
variable {p q g a F m:Nat} {ks:LP} {ep n seed:Nat} {W:List ((Dd × Dk) × Nw)}
structure agM (p q g a F m:Nat) (ks:LP) (ep seed:Nat) (W:List ((Dd × Dk) × Nw)):Prop where
 wy:∀ (i:Nat) (y:Dd × Dk),(W.map Prod.fst)[i]?=some y→WyH p q g (exN p g a) F m (csN p g a ks) ep [] (W.map (swW ep)) y.1 (dqL q (frP seed ep i) (F+m))
 wb:∀ (i:Nat) (y:Dd × Dk),(W.map Prod.fst)[i]?=some y→wB p q g (exN p g a) F m (csN p g a ks) ep [] (W.map (swW ep)) y.1=true
 d:∀ (i:Nat) (y:Dd × Dk),(W.map Prod.fst)[i]?=some y→y.1.d=i+1
 sn:∀ x∈W.map (swW ep),(∀ a∈x.P,a<ze)∧x.P.length≤100
theorem sq (hc:tY p q g a (F:Int) (m:Int) ks) (hp:p<ze) (hq:q<ze) (kW:tz p q g a F m ks ep (frR seed ep) n W) (hn:n≤ks.length):agM p q g a F m ks ep seed W:=by
 obtain⟨hn1,hn7,hnq,hf0,hsec1,hfs,hmg,hmh⟩:=zR hc.set;have hk7:=hc.len;have hNl:=yL p g a ks;have hk0:0<ks.length:=by omega
 have hq0:0<q:=by omega
 have hWl:=kW.len;have hd:∀ (i:Nat) (y:Dd × Dk),(W.map Prod.fst)[i]?=some y→y.1.d=i+1:=fun i y hy=>by
  obtain⟨hi,hyX⟩:=kW.get hy;rw[hyX];show dqD ks.length i=i+1;exact dQ Om
 have hWd:∀ (i:Nat) (x:(Dd × Dk) × Nw),W[i]?=some x→x.1.1.d=i+1∧x.2.xs=dqL q (frP seed ep i) (F+m):=fun i x hx=>by
  have hy:(W.map Prod.fst)[i]?=some x.1:=by rw[List.getElem?_map,hx];rfl
  obtain⟨hi,_⟩:=kW.get hy;refine⟨hd i x.1 hy,?_⟩;have h1:(W.map fun x=>x.2.xs)[i]?=some x.2.xs:=by rw[List.getElem?_map,hx];rfl
  rw[kW.p,List.getElem?_map,List.getElem?_range hi] at h1;rw[← aas Om];exact (Option.some.inj h1).symm
 have hSH:∀ x∈W.map (swW ep),∀ i,x.d=i+1→x.P=dqL q (frP seed ep i) (F+m):=fun x hx i hxd=>by
  obtain⟨y,hy,rfl⟩:=List.mem_map.1 hx;obtain⟨j,hj⟩:=List.getElem?_of_mem hy;obtain⟨h6,h6'⟩:=hWd j y hj;have h7:y.1.1.d=i+1:=hxd;have h8:j=i:=by omega
  subst h8;exact h6'
 refine⟨fun i y hy=>?_,fun i y hy=>?_,hd,fun x hx=>?_⟩
 ·obtain⟨hi,hyX⟩:=kW.get hy;rw[aas Om] at hyX;have hyd:=hd i y hy;have hll:(dqL q (frP seed ep i) (F+m)).length=F+m:=uP _ _ _;have hall:uz q (dqL q (frP seed ep i) (F+m))=true:=eH Om;refine⟨by rw[hyX];exact cf hk0 Om,by rw[hyX];exact adt hp hq hq0,by rw[hyd];omega,by rw[hyX];exact afQ hc hk0,hll,fun x hx hs=>?_,fun h=>?_⟩
  ·unfold swB at hs;rw[Bool.and_eq_true,decide_eq_true_eq,decide_eq_true_eq,hyd] at hs;have hxP:=hSH x hx i hs.2;rw[hxP];refine⟨?_,?_,rfl⟩
   ·have h1:=aad (m:=dqL q (frP seed ep i) (F+m)) hc.pri hc.set (l:=dqL q (frP seed ep i) (F+m)) (by rw[hll];omega) hall;rw[decide_eq_true rfl] at h1;rw[hyX];show aek p q g (exN p g a) (F:Int) (m:Int) (csN p g a ks) (dVs p q g (dqL q (frP seed ep i) (F+m)) ks.length) _=true;rw[← hNl];exact h1
   ·unfold nR;rw[hc.set,hall,hll,decide_eq_true Om];rfl
  ·exfalso;have h' : F+m≤0:=h;omega
 ·unfold wB
  rw[show (W.map (swW ep)).any (swB ep y.1.d)=true from List.any_eq_true.2 (by
   obtain⟨x,hx,rfl⟩:=List.mem_map.1 (List.mem_of_getElem? hy);exact⟨swW ep x,List.mem_map.2 ⟨x,hx,rfl⟩,by unfold swB swW;rw[decide_eq_true rfl,decide_eq_true rfl];rfl⟩),Bool.true_or]
 ·obtain⟨y,hy,rfl⟩:=List.mem_map.1 hx;obtain⟨i,hi⟩:=List.getElem?_of_mem hy;show (∀ a∈y.2.xs,a<ze)∧y.2.xs.length≤100;rw[(hWd i y hi).2];exact⟨fun z hz=>Nat.lt_trans (eJ Om z hz) hq,by rw[uP];omega⟩
end
theorem dx:∀ {VL:List Vt},(∀ x∈VL,x.S.length=32)→(VL.flatMap vtC).length=VL.length*44
 | [],_=>rfl
 | x::VL,h=>by
  rw[List.flatMap_cons,List.length_append,vg (h x (List.mem_cons_self ..)),dx (fun y hy=>h y (List.mem_cons_of_mem _ hy)),List.length_cons];omega
theorem bU {y:Vt} (h:(vtC y).length=44):um (fun i=>some (i*vtZ.length,vtZ.length)) (mkz 1 vtZ) [(0,.agg (vtC y).toArray)]=some (vtC y):=by
 rw[yA (off:=0) (size:=44) (vs:=vtC y) rfl (by simp[cellsOf]) h rfl];show some (over _ 0 _)=_;rw[zI (by rw[h];rfl)]
end Sx
end
section
open Go Go.RowKit Go.BigFrame
namespace Sx
attribute [local irreducible] DQ WC WO WT WX y5 ddH hOf voH vtS wd
def agy (p q g a F m:Nat) (ks:LP) (ep:Nat) (ah:LN) (seed view n k:Nat):Value→List Ent→Prop:=fun v L=>∃ gl cl gs cs gh ch gv cv go co W,
 v=.tuple #[.agg (bkC ep ah ep (AQ gh n ch) (AQ gv k cv) (AQ go m m)).toArray,evV (AQ gl n cl) (.slice none 0 0) (AQ gs n cs)] ∧
 L=⟨gl,51,(W.map Prod.fst).flatMap (ddC ep)++mkz (cl - n) dzC⟩::⟨gs,53,(W.map (swW ep)).flatMap swC++mkz (cs - n) swZ⟩::⟨gh,70,(W.map fun x=>ddH ep x.1.1).flatMap byC++mkz (ch - n) hzC⟩::⟨gv,140,(vtL p q g ks ep (view%1000) (hOf (zK vy) (W.map fun x=>ddH ep x.1.1)) k).flatMap vtC++mkz (cv - k) vtZ⟩::⟨go,70,(vaL p q (exN p g a) m ep (W.map fun x=>ddH ep x.1.1) n (fun i=>dqL q (frP seed ep i) (F+m))).flatMap byC++mkz (co - m) hzC⟩::mdB W ∧
 tz p q g a F m ks ep (frR seed ep) n W∧k≤cv
section
variable (p q g h0 a:Nat) (F m:Nat) (pk:Option Addr) (ck:Nat) (ks:LP) (pt:Option Addr) (c:Nat) (ep:Nat) (ah:LN) (seed view:Nat)
theorem abv (hc:tY p q g a (F:Int) (m:Int) ks) (hp:p<ze) (hq:q<ze) (hg:g<ze) (hh0:h0<ze) (ha:a<ze) (hks:zX ks) (hep:ep<18446744073709551616) (hah:ah.length=32) (hseed:seed<4294967296) (hview:view<4294967296) :
  Fn Tryz.prog 17 [csV p q g h0 a (F:Int) (m:Int) (.slice pk ks.length ck),stV p q g (exN p g a) (F:Int) (m:Int) (.slice pt ks.length c),.agg (byC ah).toArray,.int .u64 (ep:Int),.int .u32 (seed:Int),.int .u32 (view:Int)]
   (fun w=>RdF z7 (.slice pk ks.length ck) ks w∧RdF z7 (.slice pt ks.length c) (csN p g a ks) w∧uX w) (agy p q g a F m ks ep ah seed view (ks.length - F) ((ks.length+F) / 2+1)):=by
 obtain⟨hs1',hs7,hsq,hs0,hs2',hs5,_,_⟩:=zR hc.set;have hNl2:=yL p g a ks;have hk7:=hc.len;have h3F:3*F+1≤ks.length∧F≤2:=by
  have hs:=hc.set;unfold y9 at hs;simp only[Bool.and_eq_true,decide_eq_true_eq] at hs;omega
 obtain⟨h3F,hF2⟩:=h3F;have hn:0<ks.length:=by omega
 have hq0:0<q:=by omega
 have hq64:q<18446744073709551616:=by have:=hc.q32;omega
 have hwq:wd 0 q=q:=dK hq64;have hwq0:((wd 0 q:Nat):Int)≠0:=by rw[hwq];omega
 have hFm:IntKind.i64.wrap ((F:Int)+(m:Int))=((F+m:Nat):Int):=zl Om Om Om;have hnF:IntKind.i64.wrap ((ks.length:Int) - (F:Int))=((ks.length - F:Nat):Int):=zl Om Om Om;have hFm0:0<F+m:=by omega
 have hdiv:IntKind.u32.wrap ((seed:Int).tdiv 7)=((seed / 7:Nat):Int):=by
  rw[Int.tdiv_eq_ediv_of_nonneg Om];show ((seed:Int) / 7)%4294967296=_;omega
 have hcep:IntKind.u32.wrap (ep:Int)=((ep%4294967296:Nat):Int):=by
  show (ep:Int)%4294967296=_;omega
 have hblA:(byC ah).length=32:=by rw[zd,hah]
 have hDt:=fun (i:Nat) (p1:Option Addr) (c1:Nat) (P:LN) (hP:∀ x∈P,x<4294967296) (hi:i<256)=>acx p q g h0 a F m pk ck ks pt c ep i p1 c1 P hc hn hp hq hg hh0 ha hks hP hi hep;have hXf:=fun i P=>cf (p:=p) (q:=q) (g:=g) (a:=a) (F:=F) (m:=m) (ks:=ks) (ep:=ep) (d:=i) (P:=P) hn Om;have hXd:=fun i P=>agJ (p:=p) (q:=q) (g:=g) (a:=a) (F:=F) (m:=m) (ks:=ks) (ep:=ep) (d:=i) (P:=P) hn;obtain⟨n,hnn⟩ : ∃ n,ks.length - F=n:=⟨_,rfl⟩;rw[hnn] at hnF ⊢;have hn0:0<n:=by omega
 have hn7:n≤7:=by omega
 refine Fn.enter Tryz.func17 rfl rfl rfl ?_;intro w hw;obtain⟨w1,w2,w3⟩:=hw
 repeat (first|refine Tk ?_|intro _|exact Tz)
 rename_i gZ gS gA gRB gRE gE;obtain⟨Rows,hRows⟩ : ∃ Rows:Nat→Nat→Nat→Nat→Nat→Nat→Nat→List ((Dd × Dk) × Nw)→List Ent,∀ i gl cl gs cs gh ch W,Rows i gl cl gs cs gh ch W=rwL 51 gl ((W.map Prod.fst).flatMap (ddC ep)) (mkz (cl - i) dzC) i++(rwL 53 gs ((W.map (swW ep)).flatMap swC) (mkz (cs - i) swZ) i++(rwL 70 gh ((W.map fun x=>ddH ep x.1.1).flatMap byC) (mkz (ch - i) hzC) i++mdB W)):=⟨_,fun _ _ _ _ _ _ _ _=>rfl⟩
 refine WC.loopI (σ:=Nat × (Nat × Nat) × (Nat × Nat) × (Nat × Nat) × List ((Dd × Dk) × Nw)) (fun s=>s.1≤n∧tz p q g a F m ks ep (frR seed ep) s.1 s.2.2.2.2∧(0<s.1→(s.1≤s.2.1.2∧s.2.1.2<9223372036854775808)∧(s.1≤s.2.2.1.2∧s.2.2.1.2<9223372036854775808)∧(s.1≤s.2.2.2.1.2∧s.2.2.2.1.2<9223372036854775808)))
  (fun s=>[(6,Sx.pt gZ),(7,Sx.pt gS),(8,Sx.pt gA),(12,Sx.pt gRB),(13,Sx.pt gRE),(14,Sx.pt gE),(3,.int .u64 (ep:Int)),(4,.int .u32 (seed:Int)),(5,.int .u32 (view:Int)),(15,agV s.2.2.2.1.1 s.2.2.2.1.2 s.1 s.1),(16,.int .i64 (s.1:Int))])
  (fun s=>⟨gE,59,[agV s.2.1.1 s.2.1.2 s.1 s.1,.slice none 0 0,agV s.2.2.1.1 s.2.2.1.2 s.1 s.1]⟩::⟨gRE,59,[.slice none 0 0,.slice none 0 0,.slice none 0 0]⟩::⟨gRB,75,bkZ⟩::⟨gA,70,byC ah⟩::⟨gS,36,stC p q g (exN p g a) (F:Int) (m:Int) (.slice pt ks.length c)⟩::⟨gZ,29,csC p q g h0 a (F:Int) (m:Int) (.slice pk ks.length ck)⟩::Rows s.1 s.2.1.1 s.2.1.2 s.2.2.1.1 s.2.2.1.2 s.2.2.2.1.1 s.2.2.2.1.2 s.2.2.2.2) (fun s=>n - s.1) (0,(0,0),(0,0),(0,0),[]) (fun s hi=>?_) ⟨Nat.zero_le _,⟨rfl,rfl⟩,fun h=>absurd h Dt⟩ (hl:=by simp only[hRows];repeat (first|exact Lle.nil|refine Lle.c ?_))
 obtain⟨i,⟨gl,cl⟩,⟨gs,cs⟩,⟨gh,ch⟩,W⟩:=s;obtain⟨hi,hW,hr⟩:=hi
 try dsimp only at hi hW hr ⊢
 have hWl:W.length=i:=by have:=congrArg List.length hW.d;simpa using this
 by_cases hlt:i<n
 ·have hadd2:IntKind.i64.wrap ((i:Int)+1)=((i+1:Nat):Int):=zl Om Om Om;have hcvi:IntKind.u8.wrap (i:Int)=(i:Int):=u8_in Om Om;have hc32:IntKind.u32.wrap (i:Int)=(i:Int):=u32_in Om Om
  repeat (first|refine WO.does (zH rfl rfl hnF) ?_|refine Tj ?_|intro _|refine Tc ?_|exact Tz)
  refine WC.dT rfl Om ?_
  repeat (first|refine WO.does (zA rfl hc32) ?_|refine WO.does (tK rfl rfl Dt hdiv) ?_|refine WO.does (zA rfl hcep) ?_|refine Tj ?_|intro _|refine Tc ?_|exact Tz)
  refine WO.makes (zh (cs:=[.int .u32 (seed:Int),.int .u32 (i:Int),.int .u32 ((seed / 7:Nat):Int),.int .u32 3,.int .u32 ((ep%4294967296:Nat):Int)]) rfl Dt rfl) ?_;intro gf;obtain⟨P,hPe⟩ : ∃ P,frP seed ep i=P:=⟨_,rfl⟩;have hPl:P.length=5:=by rw[← hPe];rfl
  have hPn:∀ x∈P,x<4294967296:=by rw[← hPe];exact agm hseed Om
  have hPc:([.int .u32 (seed:Int),.int .u32 (i:Int),.int .u32 ((seed / 7:Nat):Int),.int .u32 3,.int .u32 ((ep%4294967296:Nat):Int)]:LV)=P.flatMap an:=by rw[← hPe];rfl
  rw[hPc];have hXe:dqX p q g a F m ks ep i P=dqX p q g a F m ks ep i (rrP (frR seed ep) i):=by rw[aas Om,hPe]
  have hLe:dqL q P (F+m)=dqL q (rrP (frR seed ep) i) (F+m):=by rw[aas Om,hPe]
  clear hPe hPc;have hDe0:=hDt i (some ⟨gf,0,none⟩) 5 P hPn Om;have hVl:=aeh (p:=p) (q:=q) (g:=g) (a:=a) (F:=F) (m:=m) (ks:=ks) (ep:=ep) (d:=i) (P:=P);have hYl:=acJ (p:=p) (q:=q) (g:=g) (a:=a) (F:=F) (m:=m) (ks:=ks) (ep:=ep) (d:=i) (P:=P);have hPl':=aex (p:=p) (q:=q) (g:=g) (a:=a) (F:=F) (m:=m) (ks:=ks) (ep:=ep) (d:=i) (P:=P);have hfit:=hXf i P;have hxd:=hXd i P;have hll:=uP q P (F+m);generalize dqX p q g a F m ks ep i P=X at *
  have hDe:Fn Tryz.prog 30 [csV p q g h0 a (F:Int) (m:Int) (.slice pk ks.length ck),stV p q g (exN p g a) (F:Int) (m:Int) (.slice pt ks.length c),.int .u64 (ep:Int),dqV i (AQ gf 5 5)] (fun w=>RdF z7 (.slice pk ks.length ck) ks w∧RdF z7 (.slice pt ks.length c) (csN p g a ks) w∧RdE an (AQ gf 5 5) P w)
   (Ex (fun s=>aha ep X (some ⟨s 0,0,none⟩) (some ⟨s 1,0,none⟩) (some ⟨s 2,0,none⟩) X.V.length X.Y.length X.P.length) (fun s=>ddL X ⟨s 0,s 1,s 2,0,0,0⟩) (fun _=>True)):=by
   rw[hVl,hYl,hPl'];rw[hPl] at hDe0;exact hDe0
  clear hDe0 hDt hXf hXd
  repeat (first|refine WO.does (zA rfl hcvi) ?_|refine Tj ?_|intro _|refine Tc ?_|exact Tz)
  refine WO.acallX (hc:=hDe) (hR:=fun wx hm=>⟨w1.mod hm.mod,w2.mod hm.mod,⟨some ⟨gf,0,none⟩,5,by rw[hPl],.inr ⟨gf,0,rfl,Hs.sg hm⟩⟩⟩) (k:=fun s _=>?_);generalize s 0=gV;generalize s 1=gY;generalize s 2=gP;simp only[ddL,List.cons_append,List.nil_append]
  repeat (first|refine Tk ?_|intro _|exact Tz)
  rename_i gd
  refine WC.loopI (σ:=Nat × Nat × Nat) (fun s=>s.1≤F+m∧(0<s.1→s.1≤s.2.2∧s.2.2<9223372036854775808)) (fun s=>[(6,Sx.pt gZ),(7,Sx.pt gS),(8,Sx.pt gA),(12,Sx.pt gRB),(13,Sx.pt gRE),(14,Sx.pt gE),(3,.int .u64 (ep:Int)),(4,.int .u32 (seed:Int)),(5,.int .u32 (view:Int)),(15,agV gh ch i i),(16,.int .i64 (i:Int)),(17,AQ gf 5 5),(18,Sx.pt gd),(19,agV s.2.1 s.2.2 s.1 s.1),(20,.int .i64 (s.1:Int))])
   (fun s=>⟨gd,51,ddC ep (X,⟨gV,gY,gP,0,0,0⟩)⟩::⟨gV,24,X.V.flatMap zc++mkz 0 (zc 0)⟩::⟨gY,24,X.Y.flatMap zc++mkz 0 (zc 0)⟩::⟨gP,117,X.P.flatMap pfC++mkz 0 (vK 0 0)⟩::⟨gf,79,P.flatMap an⟩::⟨gE,59,[agV gl cl i i,.slice none 0 0,agV gs cs i i]⟩::⟨gRE,59,[.slice none 0 0,.slice none 0 0,.slice none 0 0]⟩::⟨gRB,75,bkZ⟩::⟨gA,70,byC ah⟩::⟨gS,36,stC p q g (exN p g a) (F:Int) (m:Int) (.slice pt ks.length c)⟩::⟨gZ,29,csC p q g h0 a (F:Int) (m:Int) (.slice pk ks.length ck)⟩::(rwL 24 s.2.1 ((dqL q P s.1).flatMap zc) (mkz (s.2.2 - s.1) (zc 0)) s.1++Rows i gl cl gs cs gh ch W)) (fun s=>F+m - s.1) (0,0,0) (fun s hi=>?_) ⟨Nat.zero_le _,fun h=>absurd h Dt⟩ (hl:=by (try simp only[List.cons_append,List.nil_append]);repeat (first|exact Lle.left'|refine Lle.c ?_|refine Lle.skp ?_))
  obtain⟨k,gc,cc⟩:=s;obtain⟨hk,hrc⟩:=hi
  try dsimp only at hk hrc ⊢
  by_cases hlk:k<F+m
  ·have hadd3:IntKind.i64.wrap ((k:Int)+1)=((k+1:Nat):Int):=zl Om Om Om;obtain⟨x,hx⟩ : ∃ x,P[k]?=some x:=⟨_,List.getElem?_eq_getElem Om⟩;have hxb:=hPn x (List.mem_of_getElem? hx);have hkP:k<P.length:=by omega
   have hv:dqP q P k=x%q:=by unfold dqP;rw[if_pos hkP,List.getD_eq_getElem?_getD,hx];rfl
   have hcvx:IntKind.u64.wrap (x:Int)=(x:Int):=u64_in Om Om;have hrmx:((x:Int)).tmod ((wd 0 q:Nat):Int)=((x%q:Nat):Int):=by rw[hwq];rfl
   have hcP:(P.flatMap an)[k*1]?=some (.int .u32 (x:Int)):=vc (j:=0) (zP (f:=an) (k:=1) (fun _=>rfl) hx) rfl;have hvb:dqP q P k<18446744073709551616:=Nat.lt_trans (dL hq0 k) hq64;have hLs:(dqL q P k).flatMap zc++zc (dqP q P k)=(dqL q P (k+1)).flatMap zc:=by unfold dqL;rw[yN,List.flatMap_append];simp
   have hLl:((dqL q P k).flatMap zc).length=k*4:=by rw[zG zY,uP]
   rw[jv hvb] at hLs;rw[hv] at hLs;clear hv;generalize hvv:x%q=v at *
   repeat (first|refine WO.does (zi rfl rfl hFm) ?_|refine Tj ?_|intro _|refine Tc ?_|exact Tz)
   refine WC.dT rfl Om ?_
   repeat (first|refine Tk ?_|intro _|exact Tz)
   refine WC.mainV [12,13,14] [(0,agV gc cc k k),(1,AQ gf 5 5),(2,.int .i64 (k:Int)),(3,.pointer (some ⟨gf,k*1,none⟩)),(4,.int .u32 (x:Int)),(5,.int .u64 (x:Int)),(6,Ap gS),(7,.pointer (some ⟨gS,4,none⟩)),(8,.pointer (some ⟨gS,4,none⟩)),(9,.int .u64 ((wd 0 q:Nat):Int)),(10,.int .u64 (v:Int)),(11,.agg ([.int .u64 ((v:Nat):Int),wZ 1 0,wZ 2 0,wZ 3 0]).toArray)] Dt ?_;refine WT.with [⟨gf,79,P.flatMap an⟩,⟨gS,36,stC p q g (exN p g a) (F:Int) (m:Int) (.slice pt ks.length c)⟩] Kr (Tlv.auto (Tlv.auto (Tlv.auto (Tlv.d rfl (zb (o':=k*1) rfl rfl Om (Nat.zero_add _)) (Tlv.d rfl (zw (hc:=hcP)) (Tlv.d rfl (zA rfl hcvx) (Tlv.auto (Tlv.auto (Tlv.d rfl ue (Tlv.auto (Tlv.d rfl (yx rfl rfl hwq0 hrmx) (Tlv.d rfl (zB (cs:=[.int .u64 ((v:Nat):Int),wZ 1 0,wZ 2 0,wZ 3 0]) rfl rfl Kr) Tlv.nil)))))))))))) (fun hc hT=>?_)
   refine WT.one (m:=12) rfl hc hT ?_;refine WO.makes (zh (cs:=[.int .u64 ((v:Nat):Int),wZ 1 0,wZ 2 0,wZ 3 0]) rfl Dt rfl) ?_;intro gb;refine WO.nil (WX.wt [(74,AQ gb 1 1)] ?_);refine WT.one (m:=13) rfl hc hT ?_;refine WO.appR (z:=zc 0) (g:=gc) (c:=cc) (n:=k) (m:=1) (l:=k+1) (B:=(dqL q P k).flatMap zc) (ys:=[.int .u64 ((v:Nat):Int),wZ 1 0,wZ 2 0,wZ 3 0]) (L1:=[_,_,_,_,_,_,_,_,_,_,_,_]) (L2:=Rows i gl cl gs cs gh ch W) rfl rfl rfl rfl hLl hrc (Rds.own (m:=4) Hs.here rfl) rfl rfl Dt rfl Om Om Dt Dt (fun g1 c1 a1 a2=>?_);rw[hLs];simp only[List.cons_append,List.nil_append];refine WO.nil (WX.wt [(75,AQ g1 (k+1) c1)] ?_);refine WT.one (m:=14) rfl hc hT ?_;refine Tw ?_;refine WO.nil (WX.wt [(19,AQ g1 (k+1) c1)] ?_);refine WT.fin [14] 16 hc rfl Kr ?_;clear hc hT
   repeat (first|refine WO.does (zi rfl rfl hadd3) ?_|refine Tj ?_|intro _|refine Tc ?_|exact Tz)
   exact WX.metI (k+1,g1,c1) (hl:=by simp only[rwL,List.cons_append,List.nil_append];repeat (first|exact Lle.left'|refine Lle.c ?_|refine Lle.skp ?_)) (hs:=⟨⟨by show k+1≤F+m;omega,fun _=>⟨a2,a1⟩⟩,by show F+m - (k+1)<F+m - k;omega⟩)
  have hk2:k=F+m:=by omega
  subst hk2;clear hlk hk;have hrc':=hrc hFm0;have hHx:=ou ep X.d X.c X.s (some ⟨gV,0,none⟩) (some ⟨gY,0,none⟩) (some ⟨gP,0,none⟩) X.V.length X.Y.length X.P.length X.V X.Y X.P Om hfit.v hfit.y hfit.p (by have:=hfit.vl;omega) (by have:=hfit.yl;omega) (by have:=hfit.pl;omega);rw[show y5 ep X.d X.V X.Y X.P=ddH ep X by unfold ddH;rfl] at hHx;obtain⟨wx,hwx⟩ : ∃ wx:(Dd × Dk) × Nw,wx=((X,⟨gV,gY,gP,0,0,0⟩),⟨gc,cc,dqL q P (F+m)⟩):=⟨_,rfl⟩;have hMd:mdB (W++[wx])=⟨gc,24,(dqL q P (F+m)).flatMap zc++mkz (cc - (F+m)) (zc 0)⟩::⟨gV,24,X.V.flatMap zc++mkz 0 (zc 0)⟩::⟨gY,24,X.Y.flatMap zc++mkz 0 (zc 0)⟩::⟨gP,117,X.P.flatMap pfC++mkz 0 (vK 0 0)⟩::mdB W:=by
   rw[abA,hwx];unfold nwE;rw[hll];rfl
  have hD2:(W.map Prod.fst).flatMap (ddC ep)++ddC ep (X,⟨gV,gY,gP,0,0,0⟩)=((W++[wx]).map Prod.fst).flatMap (ddC ep):=by rw[List.map_append,List.flatMap_append,hwx];simp
  have hS2:(W.map (swW ep)).flatMap swC++[.int .u64 (ep:Int),.int .u8 (X.d:Int),AQ gc (F+m) cc]=((W++[wx]).map (swW ep)).flatMap swC:=by rw[List.map_append,List.flatMap_append,hwx];simp[swW,swC,hll]
  have hH2:(W.map fun x=>ddH ep x.1.1).flatMap byC++byC (ddH ep X)=((W++[wx]).map fun x=>ddH ep x.1.1).flatMap byC:=by rw[List.map_append,List.flatMap_append,hwx];simp
  have hDl:((W.map Prod.fst).flatMap (ddC ep)).length=i*13:=by rw[ab6,List.length_map,hWl]
  have hSl2:((W.map (swW ep)).flatMap swC).length=i*3:=by rw[zG eB,List.length_map,hWl]
  have hHl2:((W.map fun x=>ddH ep x.1.1).flatMap byC).length=i*32:=by
   clear hD2 hS2 hH2 hMd hDl hSl2 hW;rw[← hWl];clear hWl
   induction W with
   | nil=>rfl
   | cons x W ih=>rw[List.map_cons,List.flatMap_cons,List.length_append,ih,zd,vq,List.length_cons];omega
  have hcH:cut (byC (ddH ep X)) 0 32=byC (ddH ep X):=zt (by rw[zd,vq]);have hbH:(byC (ddH ep X)).length=32:=by rw[zd,vq]
  have hb32:(byC (ddH ep X)).length=1*(hzC).length:=by rw[zd,vq];rfl
  have hHl3:((W.map fun x=>ddH ep x.1.1).flatMap byC).length=i*(hzC).length:=hHl2;rw[y4 hFm0,hRows];rw[yF hFm0];simp only[List.cons_append,List.nil_append]
  repeat (first|refine WO.does (zi rfl rfl hFm) ?_|refine Tj ?_|intro _|refine Tc ?_|exact Tz)
  refine WC.dF rfl Om ?_
  repeat (first|refine WO.does (zr (vs:=ddC ep (X,⟨gV,gY,gP,0,0,0⟩)) (hc:=rfl)) ?_|refine Tj ?_|intro _|refine Tc ?_|exact Tz)
  refine WO.makes (zh (cs:=ddC ep (X,⟨gV,gY,gP,0,0,0⟩)) rfl Dt rfl) ?_;intro gb;refine WO.appR (z:=dzC) (g:=gl) (c:=cl) (n:=i) (m:=1) (l:=i+1) (B:=(W.map Prod.fst).flatMap (ddC ep)) (ys:=ddC ep (X,⟨gV,gY,gP,0,0,0⟩)) (L1:=[_,_,_,_,_,_,_,_,_,_,_,_,_]) (L2:=_) rfl rfl rfl rfl hDl (fun h=>(hr h).1) (Rds.own (m:=13) Hs.here rfl) rfl rfl Dt rfl Om Om Dt Dt (fun gl2 cl2 a1 a2=>?_);rw[hD2];simp only[List.cons_append,List.nil_append]
  repeat (first|refine Tk ?_|intro _|exact Tz)
  refine WO.makes (zh (cs:=[.int .u64 (ep:Int),.int .u8 (X.d:Int),AQ gc (F+m) cc]) rfl Dt rfl) ?_;intro gb2;refine WO.appR (z:=swZ) (g:=gs) (c:=cs) (n:=i) (m:=1) (l:=i+1) (B:=(W.map (swW ep)).flatMap swC) (ys:=[.int .u64 (ep:Int),.int .u8 (X.d:Int),AQ gc (F+m) cc]) (L1:=[_,_,_,_,_,_,_,_,_,_,_,_,_,_,_]) (L2:=_) rfl rfl rfl rfl hSl2 (fun h=>(hr h).2.1) (Rds.own (m:=3) Hs.here rfl) rfl rfl Dt rfl Om Om Dt Dt (fun gs2 cs2 b1 b2=>?_);rw[hS2];simp only[List.cons_append,List.nil_append]
  repeat (first|refine WO.does (zr (vs:=ddC ep (X,⟨gV,gY,gP,0,0,0⟩)) (hc:=rfl)) ?_|refine WO.acallR (hc:=hHx) (hR:=fun wx hm=>⟨RdF.ownO (Hs.sg hm) rfl,RdF.ownO (Hs.sg hm) rfl,RdF.ownO (Hs.sg hm) rfl⟩) (k:=?_)|refine Tj ?_|intro _|refine Tc ?_|exact Tz)
  refine WO.makes (zh (cs:=byC (ddH ep X)) rfl Dt (mX hbH)) ?_;intro gb3;refine WO.appR (z:=hzC) (g:=gh) (c:=ch) (n:=i) (m:=1) (l:=i+1) (B:=(W.map fun x=>ddH ep x.1.1).flatMap byC) (ys:=byC (ddH ep X)) (L1:=[_,_,_,_,_,_,_,_,_,_,_,_,_,_,_,_,_]) (L2:=_) rfl rfl rfl rfl hHl3 (fun h=>(hr h).2.2) (Rds.own (m:=32) Hs.here hcH) hb32 (zV _) Dt rfl Om Om Dt Dt (fun gh2 ch2 c1 c2=>?_);rw[hH2];simp only[List.cons_append,List.nil_append]
  repeat (first|refine WO.does (zi rfl rfl hadd2) ?_|refine Tj ?_|intro _|refine Tc ?_|exact Tz)
  exact WX.metI (i+1,(gl2,cl2),(gs2,cs2),(gh2,ch2),W++[wx]) (hl:=by simp only[hRows,rwL,agV,hMd,List.cons_append,List.nil_append];repeat (first|exact Lle.left'|refine Lle.c ?_|refine Lle.skp ?_)) (hs:=⟨⟨by show i+1≤n;omega,⟨mM _ _ hW.d (by rw[hwx];exact hXe),mM _ _ hW.p (by rw[hwx];exact hLe)⟩,fun _=>⟨⟨a2,a1⟩,⟨b2,b1⟩,⟨c2,c1⟩⟩⟩,by show n - (i+1)<n - i;omega⟩)
 have hi2:n=i:=by omega
 subst hi2;obtain⟨r1,r2,r3⟩:=hr Om;rw[hRows,y4 hn0,y4 hn0,y4 hn0,yF hn0,yF hn0,yF hn0];simp only[List.cons_append,List.nil_append]
 repeat (first|refine WO.does (zH rfl rfl hnF) ?_|refine Tj ?_|intro _|refine Tc ?_|exact Tz)
 refine WC.dF rfl Om ?_
 repeat (first|refine WO.does (zr (vs:=byC ah) (hc:=zt hblA) (hl:=hblA)) ?_|refine Tj ?_|intro _|refine Tc ?_|exact Tz)
 clear hlt hi;have hE:=sq hc hp hq hW Om;obtain⟨HL,hHL⟩ : ∃ HL,(W.map fun x=>ddH ep x.1.1)=HL:=⟨_,rfl⟩;have hHl:HL.length=n:=by rw[← hHL,List.length_map,hWl]
 have hH32:∀ H∈HL,H.length=32:=fun H hH=>by
  rw[← hHL] at hH;obtain⟨x,_,rfl⟩:=List.mem_map.1 hH;exact vq _ _
 have hHb:∀ H∈HL,∀ b∈H,b<256:=fun H hH=>by
  rw[← hHL] at hH;obtain⟨x,_,rfl⟩:=List.mem_map.1 hH;exact qP _ _
 rw[hHL];have hSet:=mH (some ⟨gh,0,none⟩) ch HL Om Om hH32 hHb;rw[hHl] at hSet;obtain⟨S,hS⟩ : ∃ S,hOf (zK vy) HL=S:=⟨_,rfl⟩;have hSl:S.length=32:=by rw[← hS];exact zJ _ _
 have hSb:∀ b∈S,b<256:=by rw[← hS];exact yY _ _
 rw[hS] at hSet;have hbk:=fun sV sO=>zy (ep:=ep) (cep:=ep) (sD:=AQ gh n ch) (sV:=sV) (sO:=sO) hah;refine WO.does (uI (cs:=bkC ep ah ep (AQ gh n ch) (.slice none 0 0) (.slice none 0 0)) rfl (iR hah rfl)) ?_
 repeat (first|refine WO.stores (zo (vs:=bkC ep ah ep (AQ gh n ch) (.slice none 0 0) (.slice none 0 0)) (cs':=bkC ep ah ep (AQ gh n ch) (.slice none 0 0) (.slice none 0 0)) (hl:=hbk _ _) (h1:=sR rfl rfl rfl) (hc:=zI (by rw[hbk];rfl)) (hle:=by rw[hbk];rfl)) ?_|refine Tj ?_|intro _|refine Tc ?_|exact Tz)
 rename_i gB;obtain⟨Qm,hQm⟩ : ∃ Qm,(ks.length+F) / 2+1=Qm:=⟨_,rfl⟩;have hQ:=iu ks.length F Om Om hF2;rw[hQm] at hQ ⊢;have hQ0:0<Qm:=by omega
 have hQk:Qm≤ks.length:=by omega
 refine WC.loopI (σ:=Nat × Nat × Nat) (fun s=>s.1≤Qm∧(0<s.1→s.1≤s.2.2∧s.2.2<9223372036854775808)) (fun s=>[(6,Sx.pt gZ),(7,Sx.pt gS),(8,Sx.pt gA),(12,Sx.pt gRB),(13,Sx.pt gRE),(14,Sx.pt gE),(3,.int .u64 (ep:Int)),(4,.int .u32 (seed:Int)),(5,.int .u32 (view:Int)),(15,AQ gh n ch),(21,Sx.pt gB),(22,.int .i64 (s.1:Int))])
  (fun s=>⟨gB,75,bkC ep ah ep (AQ gh n ch) (agV s.2.1 s.2.2 s.1 s.1) (.slice none 0 0)⟩::⟨gE,59,[AQ gl n cl,.slice none 0 0,AQ gs n cs]⟩::⟨gRE,59,[.slice none 0 0,.slice none 0 0,.slice none 0 0]⟩::⟨gRB,75,bkZ⟩::⟨gA,70,byC ah⟩::⟨gS,36,stC p q g (exN p g a) (F:Int) (m:Int) (.slice pt ks.length c)⟩::⟨gZ,29,csC p q g h0 a (F:Int) (m:Int) (.slice pk ks.length ck)⟩::⟨gl,51,(W.map Prod.fst).flatMap (ddC ep)++mkz (cl - n) dzC⟩::⟨gs,53,(W.map (swW ep)).flatMap swC++mkz (cs - n) swZ⟩::⟨gh,70,HL.flatMap byC++mkz (ch - n) hzC⟩::(rwL 140 s.2.1 ((vtL p q g ks ep (view%1000) S s.1).flatMap vtC) (mkz (s.2.2 - s.1) vtZ) s.1++mdB W)) (fun s=>Qm - s.1) (0,0,0) (fun s hi=>?_) ⟨Nat.zero_le _,fun h=>absurd h Dt⟩ (hl:=by (try simp only[List.cons_append,List.nil_append]);repeat (first|exact Lle.left'|refine Lle.c ?_|refine Lle.skp ?_))
 obtain⟨j,gv,cv⟩:=s;obtain⟨hj,hr⟩:=hi
 try dsimp only at hj hr ⊢
 by_cases hlt:j<Qm
 ·obtain⟨kj,hkj⟩ : ∃ k,ks[j]?=some k:=⟨_,List.getElem?_eq_getElem Om⟩;obtain⟨bK,oK,rfl,_,hsK⟩:=id w1 |>.get hkj
  have hadj:IntKind.i64.wrap ((j:Int)+1)=((j+1:Nat):Int):=zl Om Om Om;have hcj:IntKind.u8.wrap ((j+1:Nat):Int)=((j+1:Nat):Int):=tt Om Om Om;have hrm:((view:Int)).tmod 1000=((view%1000:Nat):Int):=rfl;have hvok:adW ⟨ep,view%1000,j+1,S,0,0⟩:=⟨hep,Nat.mod_lt _ Dt,by show j+1<256;omega,hSb,hSl,zF,zF⟩;have hkn:=hks kj (List.mem_of_getElem? hkj);obtain⟨v1,_,_,_⟩:=eX hc hkj (voH ⟨ep,view%1000,j+1,S,0,0⟩);have hvm:vtM p q g ks ep (view%1000) S j=⟨ep,view%1000,j+1,S,(vtS p q g kj.1 (voH ⟨ep,view%1000,j+1,S,0,0⟩)).1,(vtS p q g kj.1 (voH ⟨ep,view%1000,j+1,S,0,0⟩)).2⟩:=by
   unfold vtM;rw[show (ks.getD j (0,0)).1=kj.1 by rw[List.getD_eq_getElem?_getD,hkj];rfl]
  have hBs:Fn Tryz.prog 49 [stV p q g (exN p g a) (F:Int) (m:Int) (.slice pt ks.length c),.agg (vtC ⟨ep,view%1000,j+1,S,0,0⟩).toArray,zj kj.1] Tr (Is (.tuple #[.agg (vtC (vtM p q g ks ep (view%1000) S j)).toArray,.int .i64 0])):=by
   rw[hvm];exact ac5 p q g (exN p g a) (.slice pt ks.length c) (F:Int) (m:Int) ⟨ep,view%1000,j+1,S,0,0⟩ kj.1 hvok hp hq hg hkn.1 Om v1
  have hnx:=aZ p q g ks ep (view%1000) S j;have hyS:(vtM p q g ks ep (view%1000) S j).S.length=32:=hSl;have hyl:=vg hyS;have hVf:((vtL p q g ks ep (view%1000) S j).flatMap vtC).length=j*vtZ.length:=by
   rw[dx (fun x hx=>by
    obtain⟨i,_,rfl⟩:=List.mem_map.1 hx;exact hSl),yS]
   rfl
  have hB2:(vtL p q g ks ep (view%1000) S j).flatMap vtC++vtC (vtM p q g ks ep (view%1000) S j)=(vtL p q g ks ep (view%1000) S (j+1)).flatMap vtC:=by rw[hnx,List.flatMap_append];simp
  clear hvm hnx v1;generalize vtM p q g ks ep (view%1000) S j=y at *
  repeat (first|refine WO.acallR (hc:=hQ) (hR:=fun _ _=>trivial) (k:=?_)|refine Tj ?_|intro _|refine Tc ?_|exact Tz)
  refine WC.dT rfl Om ?_
  repeat (first|refine Tk ?_|intro _|exact Tz)
  refine WC.adrawF [19] 21 (k:=?_)
  iterate 3 refine Dx ?_
  refine DQ.does (fun s _=>yx rfl rfl Dt hrm) Dp.const ?_;refine Dx ?_;refine DQ.does (fun s _=>zi rfl rfl hadj) Dp.const ?_;refine DQ.does (fun s _=>zA rfl hcj) Dp.const ?_;refine Dx ?_;refine DQ.acallR (hc:=hSet) (hR:=fun wx hm=>RdF.ownO (Hs.sg hm) hHl) (k:=?_);refine DQ.does (fun s _=>uI (cs:=vtC ⟨ep,view%1000,j+1,S,0,0⟩) rfl (eh hSl)) Dp.const ?_
  iterate 3 refine Dx ?_
  refine DQ.does (fun s _=>zb (o':=oK+j*8) rfl rfl Om rfl) Dp.const ?_;refine Dx ?_;refine DQ.does (fun s _=>zm (vs:=zc kj.1) (hs:=hsK) (hle:=Nat.le_add_right _ _) (hc:=rz hkj)) Dp.const ?_;refine DQ.acallR (hc:=hBs) (hR:=fun _ _=>trivial) (k:=?_)
  repeat (first|refine Da ?_|refine Df ?_)
  refine DQ.anil (k:=?_);intro sx _
  repeat (first|refine WO.stores (zo (vs:=vtC y) (cs':=vtC y) (hl:=hyl) (h1:=qa y) (hc:=zI (by rw[hyl];rfl)) (hle:=by rw[hyl];rfl)) ?_|refine WO.does (zw (hc:=sY hah 2)) ?_|refine WO.does (zr (vs:=vtC y) (hc:=zt hyl) (hl:=hyl)) ?_|refine Tj ?_|intro _|refine Tc ?_|exact Tz)
  refine WO.makes (zh (cs:=vtC y) rfl Dt (bU hyl)) ?_;intro gb;refine WO.appR (z:=vtZ) (g:=gv) (c:=cv) (n:=j) (m:=1) (l:=j+1) (B:=(vtL p q g ks ep (view%1000) S j).flatMap vtC) (ys:=vtC y) (L1:=[_,_,_,_,_,_,_,_,_,_,_,_]) (L2:=mdB W) rfl rfl rfl rfl hVf hr (Rds.own (m:=44) Hs.here (zt hyl)) (by rw[hyl];rfl) (qa y) Dt rfl Om Om Dt Dt (fun g1 c1 a1 a2=>?_);rw[hB2];simp only[List.cons_append,List.nil_append]
  repeat (first|refine WO.stores (zo (vs:=[AQ g1 (j+1) c1]) (cs':=bkC ep ah ep (AQ gh n ch) (AQ g1 (j+1) c1) (.slice none 0 0)) (hc:=e9 hah) (hle:=by rw[hbk];rfl)) ?_|refine WO.does (zi rfl rfl hadj) ?_|refine Tj ?_|intro _|refine Tc ?_|exact Tz)
  exact WX.metI (j+1,g1,c1) (hl:=by simp only[rwL,agV,List.cons_append,List.nil_append];repeat (first|exact Lle.left'|refine Lle.c ?_|refine Lle.skp ?_)) (hs:=⟨⟨by show j+1≤Qm;omega,fun _=>⟨a2,a1⟩⟩,by show Qm - (j+1)<Qm - j;omega⟩)
 have hj2:Qm=j:=by omega
 subst hj2;rw[y4 hQ0,yF hQ0];simp only[List.cons_append,List.nil_append];clear hlt hj;have hWE:=hE.wy;have hSec:=tE p q g (exN p g a) F m pt c (csN p g a ks) ep (some ⟨gl,0,none⟩) cl (W.map Prod.fst) none 0 [] (some ⟨gs,0,none⟩) cs (W.map (swW ep)) (some ⟨gh,0,none⟩) ch HL (fun i=>dqL q (frP seed ep i) (F+m)) true hp hq hg (vO hp) (tL hp) Om hc.set Om Om hep (by rw[List.length_map,hWl];omega) hE.sn (by rw[List.length_map,hWl];omega) (by rw[List.length_map,hWl];omega) (by rw[← hHL];exact hW.hs) hE.wy (fun i y hy _=>hE.wb i y hy) (fun i y bD oD e2 d2 s2 hy=>by
  have:=sE p q g (exN p g a) F m pt c (csN p g a ks) ep y (some ⟨bD,oD,none⟩) cl (W.map Prod.fst) none 0 (some ⟨gs,0,none⟩) cs (W.map (swW ep)) e2 d2 s2 (osL p q (exN p g a) (dqL q (frP seed ep i) (F+m)) m) Om Om Om;rw[show decide (F+m≤(aA (ckY p q g (exN p g a) F m (csN p g a ks) ep y.1) []).length)=false from decide_eq_false (by show ¬ F+m≤0;omega)];exact this)
 have hTl:(W.map Prod.fst).length=n:=by rw[List.length_map,hWl]
 have hShl:(W.map (swW ep)).length=n:=by rw[List.length_map,hWl]
 rw[hTl,hShl,hNl2] at hSec
 repeat (first|refine WO.acallR (hc:=hQ) (hR:=fun _ _=>trivial) (k:=?_)|refine Tj ?_|intro _|refine Tc ?_|exact Tz)
 refine WC.dF rfl Om ?_
 repeat (first|refine Tk ?_|intro _|exact Tz)
 refine WO.calls (fs:=[]) (cs:=[]) hSec rfl rfl rfl (fun wx hm=>⟨w2.mod hm.mod,⟨RdF.ownO (Hs.sg hm) rfl,fun y hy=>jo (fun e he=>hm.ok e (by repeat (first|exact he|exact List.mem_append_left _ he|apply List.mem_cons_of_mem|apply List.mem_append_right))) y hy,RdF.nilV,RdF.ownO (Hs.sg hm) rfl,fun x hx=>by
  obtain⟨z,hz,rfl⟩:=List.mem_map.1 hx;exact jg (fun e he=>hm.ok e (by repeat (first|exact he|exact List.mem_append_left _ he|apply List.mem_cons_of_mem|apply List.mem_append_right))) z.2 (List.mem_map.2 ⟨z,hz,rfl⟩)⟩,RdF.ownO (Hs.sg hm) hHl,w3.mod hm.mod Sm⟩) (fun v1 N1 hv=>?_)
 obtain⟨gO,cO',Z,rfl,rfl,hZ,hZm⟩:=hv;have hZl:Z.length=n:=by have:=congrArg List.length hZ;simpa using this
 have hZx:∀ z∈Z,z.xs.length=m:=fun z hz=>by
  have h1:z.xs∈Z.map Nw.xs:=List.mem_map.2 ⟨z,hz,rfl⟩;rw[hZ] at h1;obtain⟨i,_,hi⟩:=List.mem_map.1 h1;rw[← hi,oq]
 have hOf:=aeZ p q g (exN p g a) F m pt c (csN p g a ks) ep (some ⟨gh,0,none⟩) ch HL (some ⟨gO,0,none⟩) n Z hp hq hg (vO hp) (tL hp) Om hc.set Om Om Om Om Om hH32 hHb Om hZx;rw[hZ,← jc,hHl,hNl2] at hOf;refine WO.behind [_,_,_,_,_,_,_,_,_,_,_] ?_;simp only[aeV,yF hn0,List.cons_append,List.nil_append]
 repeat (first|refine Tk ?_|intro _|exact Tz)
 refine WO.calls (fs:=[]) (cs:=[]) hOf rfl rfl rfl (fun wx hm=>⟨w2.mod hm.mod,RdF.ownO (Hs.sg hm) hHl,⟨RdF.ownO (Hs.sg hm) hZl,fun z hz=>adY (hm.ok _ (by repeat (first|exact List.mem_append_left _ (bv hz)|apply List.mem_cons_of_mem)))⟩⟩) (fun v1 N1 hv=>?_);obtain⟨gV,cV,rfl,rfl⟩:=hv;simp only[List.cons_append,List.nil_append]
 repeat (first|refine WO.stores (zo (vs:=[AQ gV m m]) (cs':=bkC ep ah ep (AQ gh n ch) (AQ gv Qm cv) (AQ gV m m)) (hc:=lQ hah) (hle:=by rw[hbk];rfl)) ?_|refine Tj ?_|intro _|refine Tc ?_|exact Tz)
 subst hS;subst hHL;refine WC.mainV [2,3] [(0,.agg (bkC ep ah ep (AQ gh n ch) (AQ gv Qm cv) (AQ gV m m)).toArray),(1,.agg ([AQ gl n cl,.slice none 0 0,AQ gs n cs]).toArray)] Dt ?_;refine WT.with [⟨gB,75,bkC ep ah ep (AQ gh n ch) (AQ gv Qm cv) (AQ gV m m)⟩,⟨gE,59,[AQ gl n cl,.slice none 0 0,AQ gs n cs]⟩] Kr (Tlv.d rfl (zr (vs:=bkC ep ah ep (AQ gh n ch) (AQ gv Qm cv) (AQ gV m m)) (hc:=zt (hbk _ _)) (hl:=hbk _ _)) (Tlv.auto Tlv.nil)) (fun hc hT=>?_)
 refine WT.step [2,3] Dt hc hT ⟨⟨_,rfl,?_⟩,⟨_,rfl,?_⟩,trivial⟩
 ·refine WO.stores (zo (vs:=bkC ep ah ep (AQ gh n ch) (AQ gv Qm cv) (AQ gV m m)) (cs':=bkC ep ah ep (AQ gh n ch) (AQ gv Qm cv) (AQ gV m m)) (hl:=hbk _ _) (h1:=sR rfl rfl rfl) (hc:=zI (by rw[hbk];rfl)) (hle:=by rw[hbk];rfl)) ?_;refine WO.nil (WX.wt [] ?_);refine WT.one (m:=3) rfl hc hT ?_;refine WO.stores zo ?_;refine WO.nil (WX.wt [] ?_);refine WT.fin [2,3] 5 hc rfl Kr ?_;clear hc hT
  repeat (first|refine Tk ?_|intro _|exact Tz)
  exact WX.ret2 rfl (yj rfl Hs.a (zt (hbk _ _)) (hbk _ _)) (yj (vs:=[AQ gl n cl,.slice none 0 0,AQ gs n cs]) rfl Hs.a rfl rfl) _ (by (iterate 5 refine Lle.c ?_);repeat (first|exact Lle.skpL _ Lle.left'|refine Lle.skp ?_)) ⟨gl,cl,gs,cs,gh,ch,gv,cv,gV,cV,W,rfl,rfl,hW,(hr hQ0).1⟩
 ·refine WO.stores zo ?_;refine WO.nil (WX.wt [] ?_);refine WT.one (m:=2) rfl hc hT ?_;refine WO.stores (zo (vs:=bkC ep ah ep (AQ gh n ch) (AQ gv Qm cv) (AQ gV m m)) (cs':=bkC ep ah ep (AQ gh n ch) (AQ gv Qm cv) (AQ gV m m)) (hl:=hbk _ _) (h1:=sR rfl rfl rfl) (hc:=zI (by rw[hbk];rfl)) (hle:=by rw[hbk];rfl)) ?_;refine WO.nil (WX.wt [] ?_);refine WT.fin [2,3] 5 hc rfl Kr ?_;clear hc hT
  repeat (first|refine Tk ?_|intro _|exact Tz)
  exact WX.ret2 rfl (yj rfl Hs.a (zt (hbk _ _)) (hbk _ _)) (yj (vs:=[AQ gl n cl,.slice none 0 0,AQ gs n cs]) rfl Hs.a rfl rfl) _ (by (iterate 5 refine Lle.c ?_);repeat (first|exact Lle.skpL _ Lle.left'|refine Lle.skp ?_)) ⟨gl,cl,gs,cs,gh,ch,gv,cv,gV,cV,W,rfl,rfl,hW,(hr hQ0).1⟩
end
end Sx
end
section
open Go Go.RowKit Go.BigFrame
namespace Sx
attribute [local irreducible] DQ WC WO WT WX y5 ddH hOf wd
theorem rB:Fn Tryz.prog 50 [.pointer none] Tr (Is (.bool false)):=by
 refine Fn.enter Tryz.func50 rfl rfl rfl ?_;intro w hw
 repeat (first|refine WO.does (iK (e:=136) Kr rfl rfl) ?_|refine Tj ?_|intro _|refine Tc ?_|exact Tz)
 done
theorem afD:Fn Tryz.prog 16 [stV 0 0 0 0 0 0 (.slice none 0 0)] Tr (Is (.tuple #[.pointer none,.int .i64 1])):=by
 have hS:=zZ 0 0 0 0 0 0 none 0 [] Dt Dt Dt Dt (fun k hk=>by simp at hk) Sm Dt Dt Dt Dt;rw[show y9 0 0 0 0 0 0 []=false by decide] at hS;refine Fn.enter Tryz.func16 rfl rfl rfl ?_;intro w hw
 repeat (first|refine Tj ?_|intro _|refine WO.acallR (hc:=hS) (hR:=fun wx hm=>⟨none,0,rfl,.inl ⟨rfl,rfl⟩⟩) (k:=?_)|refine Tc ?_|exact Tz)
 done
theorem agp (r:Nat):Fn Tryz.prog 23 [.pointer none,.int .u64 (r:Int)] Tr (Is (.tuple #[.agg (byC (List.replicate 32 0)).toArray,.int .i64 2])):=by
 have hT:=rB;refine Fn.enter Tryz.func23 rfl rfl rfl ?_;intro w hw
 repeat (first|refine WO.does (zB (cs:=byC (List.replicate 32 0)) rfl rfl Kr) ?_|refine Tj ?_|intro _|refine WO.acall (hc:=hT) (k:=?_)|refine Tc ?_|exact Tz)
 done
theorem agd (r:Nat):Fn Tryz.prog 22 [.pointer none,.int .u64 (r:Int)] Tr (Is (.tuple #[.agg bkZ.toArray,evV (.slice none 0 0) (.slice none 0 0) (.slice none 0 0),.int .i64 2])):=by
 have hT:=rB;refine Fn.enter Tryz.func22 rfl rfl rfl ?_;intro w hw
 repeat (first|refine Tj ?_|intro _|refine WO.acall (hc:=hT) (k:=?_)|refine Tc ?_|exact Tz)
 done
theorem afS:Fn Tryz.prog 20 [.pointer none] Tr (Is (.int .i64 0)):=by
 have hT:=rB;refine Fn.enter Tryz.func20 rfl rfl rfl ?_;intro w hw
 repeat (first|refine Tj ?_|intro _|refine WO.acall (hc:=hT) (k:=?_)|refine Tc ?_|exact Tz)
 done
theorem agh:Fn Tryz.prog 19 [.pointer none,.agg bkZ.toArray,evV (.slice none 0 0) (.slice none 0 0) (.slice none 0 0)] Tr (Is (.int .i64 2)):=by
 have hT:=rB;refine Fn.enter Tryz.func19 rfl rfl rfl ?_;intro w hw
 repeat (first|refine Tj ?_|intro _|refine WO.acall (hc:=hT) (k:=?_)|refine Tc ?_|exact Tz)
 done
theorem dt:Fn Tryz.prog 15 [] Tr (Is (.bool true)):=by
 have h1:=afD;have h2:=agp 0;have h3:=agd 1;have h4:=afS;have h5:=agh;have h6:=(afj 0 0 0 0 none 0 [] 0 0 Dt Dt Dt Dt (fun k hk=>by simp at hk) Sm Dt Dt Dt Dt Dt).weak (R':=Tr) (fun w _=>⟨none,0,rfl,.inl ⟨rfl,rfl⟩⟩) (fun _ _ h=>h);have hz:∀ b∈List.replicate 32 0,b<256:=fun b hb=>by rw[List.eq_of_mem_replicate hb];decide
 refine Fn.enter Tryz.func15 rfl rfl rfl ?_;intro w hw
 repeat (first|refine WO.does (zD rfl rfl rfl) ?_|refine WO.does (vj (A:=List.replicate 32 0) (B:=List.replicate 32 0) hz hz rfl rfl rfl rfl (decide_eq_true rfl)) ?_|refine Tj ?_|intro _|refine WO.acall (hc:=h1) (k:=?_)|refine WO.acall (hc:=h2) (k:=?_)|refine WO.acall (hc:=h3) (k:=?_)|refine WO.acall (hc:=h4) (k:=?_)|refine WO.acall (hc:=h5) (k:=?_)|refine WO.acall (hc:=h6) (k:=?_)|refine Tc ?_|exact Tz)
 done
end Sx
end
section
open Go Go.RowKit Go.BigFrame
namespace Sx
attribute [local irreducible] DQ WC WO WT WX y5 ddH gnH hOf voH vtS wd
end Sx
end
section
open Go Go.RowKit Go.BigFrame
namespace Sx
attribute [local irreducible] DQ WC WO WX wd
theorem yU {α:Type} {f:α→List Value} {k:Nat}:∀ {xs:List α},(∀ x∈xs,(f x).length=k)→(xs.flatMap f).length=xs.length*k
 | [],_=>by simp
 | a::r,h=>by
  rw[List.flatMap_cons,List.length_append,h a Sm,yU (fun x hx=>h x (by simp[hx])),List.length_cons,Nat.add_mul,Nat.one_mul];omega
theorem nI {P:Program} {w0:World} {gs:LN} {K:List (Nat × Value)} {L:List Ent} {x y:Operand} {t yt ty e:TypeId} (hu:P.underlying t=some (.slice e)) (hx:ev K x=some (.slice none 0 0)) (hy:ev K y=some (.slice none 0 0)):Does P w0 gs K L (.binOp .eql t x y yt) ty (.bool true):=by
 intro a w hk _ o ho _;have h1:(eqGuard .eql t x y (.slice none 0 0) (.slice none 0 0)).run P w=.ok () w:=by unfold eqGuard;rfl
 have h4:∀ d,(Op.equalIn (d+1) t (.slice none 0 0) (.slice none 0 0)).run P w=.ok true w:=fun d=>by
  simp[Op.equalIn,underlying,hu]
 have h3:(Op.equalIn 10000 t (.slice none 0 0) (.slice none 0 0)).run P w=.ok true w:=h4 9999;have h2:(binOp .eql t (.slice none 0 0) (.slice none 0 0)).run P w=.ok (.bool true) w:=by
  simp only[binOp,Op.equal,Op.maxDepth,Sem.run_bind,h3,Result.andThen_ok,Sem.run_pure]
 simp only[execOp,ho,hk.eval hx,hk.eval hy,Sem.run_bind,h1,Result.andThen_ok,h2,Sem.run_pure]
section
open Kp
variable {P:Program} {w0:World} {gs:LN} {n:Nat} {fl:LN} {Q:Exit→Act→World→Prop} {ops:List Oper} {L0:List Ent}
variable {tail rest:List Oper} {i:Nat} {C:zU→Prop} {K:zU→List (Nat × Value)} {N:zU→List (Nat × Ent)}
variable {d:Nat} {op:Op} {ty:TypeId} {pos:String} {after:Array Edge} {gd:Option (Nat × Bool)}
theorem DQ.acallXT {f:FuncId} [Cal P f] {xs:Array Operand} {ats:Array TypeId} {vs:LV} {Rq:World→Prop} {vf:(Nat→Nat)→Value} {Nf:(Nat→Nat)→List Ent} {S:(Nat→Nat)→Prop} (hc:Fn P f vs Rq (Ex vf Nf S)) (hS:∃ x,S x) (hR:∀ w,Mr w0 gs L0 w→Rq w) (ha:∀ s,evs (K s) xs.toList=some vs:=by (intro s;rfl))
  (k:DQ P w0 gs n fl Q ops L0 tail (i+1) rest (fun s=>C s∧S (s i)) (fun s=>(d,vf (s i))::K s) (fun s=>(Nf (s i)).map (fun e=>(i,e))++N s))
  (hfl:fl.contains i=false:=by rfl) (hw:∀ s,wk ops (K s) gd=some true:=by intro _;rfl) (hd:Nat.blt d n=true:=by rfl) :
  DQ P w0 gs n fl Q ops L0 tail i (⟨some d,.call { callee:=.value (.func f),args:=xs,argTypes:=ats },ty,pos,after,gd⟩::rest) C K N :=
 DQ.callsE (fs:=fun _=>[]) (cs:=fun _=>[]) (R:=fun _=>Rq) (vf:=fun _ x=>vf x) (Nf:=fun _ x=>Nf x) (S:=fun _ x=>S x) (fun _=>[]) (fun _=>.nil)
  (fun _=>hS) (fun _ _=>hc) (fun _=>rfl) ha (fun _=>by simp) (fun _ _ w h=>hR w h) Dp.const Dp.const Dp.const k hfl hw hd
end
theorem dA {α:Type} {f:α→List Value} {K:Nat} (hf:∀ x,(f x).length=K) {N:List α} {k j:Nat} {x y:α} {r vs:LV} (hx:N[k]?=some x) (hj:∀ r,over (f x++r) j vs=f y++r):over (N.flatMap f++r) (k*K+j) vs=(N.set k y).flatMap f++r:=by
 obtain⟨hk,e⟩:=List.getElem?_eq_some_iff.1 hx;have h1:N=N.take k++x::N.drop (k+1):=by rw[← e,← List.drop_eq_getElem_cons hk,List.take_append_drop]
 have h2:N.set k y=N.take k++y::N.drop (k+1):=List.set_eq_take_append_cons_drop.trans (if_pos hk);rw[h2]
 conv=>lhs;rw[h1]
 simp only[List.flatMap_append,List.flatMap_cons,List.append_assoc];rw[yK (by rw[zG hf,List.length_take,Nat.min_eq_left Om]),hj]
theorem dE (l:List (List Nat)):(l.flatMap byC).all Value.oneCell'=true:=by
 rw[List.all_eq_true];intro x hx;obtain⟨H,_,h⟩:=List.mem_flatMap.1 hx;exact List.all_eq_true.1 (zV H) x h
theorem kO {α:Type} {f:α→List Value} {xs:List α} (h:∀ x∈xs,(f x).all Value.oneCell'=true):(xs.flatMap f).all Value.oneCell'=true:=by
 rw[List.all_flatMap];exact List.all_eq_true.2 h
section
variable (pt:Option Addr) (c:Nat)
theorem jb (xs:List (List Nat)) (h32:∀ X∈xs,X.length=32) (h0:0<xs.length) (hn:xs.length≤1000):Fn Tryz.prog 111 [.slice pt xs.length c] (RdF byC (.slice pt xs.length c) xs) (NwR 70 byC hzC xs):=by
 have hl:(xs.flatMap byC).length=xs.length*32:=yU fun x hx=>by rw[zd,h32 x hx]
 refine Fn.enter Tryz.func111 rfl rfl rfl ?_;intro w hw;obtain⟨x,hx⟩ : ∃ x,xs[0]?=some x:=⟨_,List.getElem?_eq_getElem h0⟩;obtain⟨b,o,rfl,_,hs⟩:=id hw |>.get hx
 repeat (first|refine WO.does (yM (e:=70) Tryz.underlying42 rfl rfl) ?_|refine Tj ?_|intro _|(refine WO.makes (zh (cs:=[]) rfl Dt rfl) ?_;intro _)|refine Tc ?_|exact Tz)
 refine WO.appKZ (z:=hzC) (m:=xs.length) (l:=xs.length) rfl rfl rfl (xs:=[]) (ys:=xs.flatMap byC) rfl (Nat.le_refl _) Pk.a (RdF.rds hw rfl) hl (dE xs) (Nat.zero_add _) Om Dt Om Dt Dt (fun g1 c1 a2 a3=>?_)
 repeat (first|refine Tk ?_|intro _|exact Tz)
 exact WX.ret1 rfl (zO rfl) [⟨g1,70,xs.flatMap byC++mkz (c1 - xs.length) hzC⟩] (by repeat (first|exact Lle.nil|refine Lle.c ?_)) ⟨fun j=>match j with|0=>g1|_=>c1,rfl,rfl,a3,a2⟩
theorem aQ (xs:List Vt) (h32:∀ x∈xs,x.S.length=32) (h0:0<xs.length) (hn:xs.length≤1000):Fn Tryz.prog 113 [.slice pt xs.length c] (RdF vtC (.slice pt xs.length c) xs) (NwR 140 vtC vtZ xs):=by
 have hl:(xs.flatMap vtC).length=xs.length*44:=yU fun x hx=>vg (h32 x hx);refine Fn.enter Tryz.func113 rfl rfl rfl ?_;intro w hw;obtain⟨x,hx⟩ : ∃ x,xs[0]?=some x:=⟨_,List.getElem?_eq_getElem h0⟩;obtain⟨b,o,rfl,_,hs⟩:=id hw |>.get hx
 repeat (first|refine WO.does (yM (e:=140) Tryz.underlying71 rfl rfl) ?_|refine Tj ?_|intro _|(refine WO.makes (zh (cs:=[]) rfl Dt rfl) ?_;intro _)|refine Tc ?_|exact Tz)
 refine WO.appKZ (z:=vtZ) (m:=xs.length) (l:=xs.length) rfl rfl rfl (xs:=[]) (ys:=xs.flatMap vtC) rfl (Nat.le_refl _) Pk.a (RdF.rds hw rfl) hl (kO fun x _=>qa x) (Nat.zero_add _) Om Dt Om Dt Dt (fun g1 c1 a2 a3=>?_)
 repeat (first|refine Tk ?_|intro _|exact Tz)
 exact WX.ret1 rfl (zO rfl) [⟨g1,140,xs.flatMap vtC++mkz (c1 - xs.length) vtZ⟩] (by repeat (first|exact Lle.nil|refine Lle.c ?_)) ⟨fun j=>match j with|0=>g1|_=>c1,rfl,rfl,a3,a2⟩
theorem aaP (ep:Nat) (xs:List (Dd × Dk)) (h0:0<xs.length) (hn:xs.length≤1000):Fn Tryz.prog 115 [.slice pt xs.length c] (RdF (ddC ep) (.slice pt xs.length c) xs) (NwR 51 (ddC ep) dzC xs):=by
 have hl:(xs.flatMap (ddC ep)).length=xs.length*13:=yU fun x _=>rfl;refine Fn.enter Tryz.func115 rfl rfl rfl ?_;intro w hw;obtain⟨x,hx⟩ : ∃ x,xs[0]?=some x:=⟨_,List.getElem?_eq_getElem h0⟩;obtain⟨b,o,rfl,_,hs⟩:=id hw |>.get hx
 repeat (first|refine WO.does (yM (e:=51) Tryz.underlying40 rfl rfl) ?_|refine Tj ?_|intro _|(refine WO.makes (zh (cs:=[]) rfl Dt rfl) ?_;intro _)|refine Tc ?_|exact Tz)
 refine WO.appKZ (z:=dzC) (m:=xs.length) (l:=xs.length) rfl rfl rfl (xs:=[]) (ys:=xs.flatMap (ddC ep)) rfl (Nat.le_refl _) Pk.a (RdF.rds hw rfl) hl (kO fun x _=>rfl) (Nat.zero_add _) Om Dt Om Dt Dt (fun g1 c1 a2 a3=>?_)
 repeat (first|refine Tk ?_|intro _|exact Tz)
 exact WX.ret1 rfl (zO rfl) [⟨g1,51,xs.flatMap (ddC ep)++mkz (c1 - xs.length) dzC⟩] (by repeat (first|exact Lle.nil|refine Lle.c ?_)) ⟨fun j=>match j with|0=>g1|_=>c1,rfl,rfl,a3,a2⟩
theorem abB (xs:List Sw) (h0:0<xs.length) (hn:xs.length≤1000):Fn Tryz.prog 119 [.slice pt xs.length c] (RdF swC (.slice pt xs.length c) xs) (NwR 53 swC swZ xs):=by
 have hl:(xs.flatMap swC).length=xs.length*3:=yU fun x _=>rfl;refine Fn.enter Tryz.func119 rfl rfl rfl ?_;intro w hw;obtain⟨x,hx⟩ : ∃ x,xs[0]?=some x:=⟨_,List.getElem?_eq_getElem h0⟩;obtain⟨b,o,rfl,_,hs⟩:=id hw |>.get hx
 repeat (first|refine WO.does (yM (e:=53) Tryz.underlying45 rfl rfl) ?_|refine Tj ?_|intro _|(refine WO.makes (zh (cs:=[]) rfl Dt rfl) ?_;intro _)|refine Tc ?_|exact Tz)
 refine WO.appKZ (z:=swZ) (m:=xs.length) (l:=xs.length) rfl rfl rfl (xs:=[]) (ys:=xs.flatMap swC) rfl (Nat.le_refl _) Pk.a (RdF.rds hw rfl) hl (kO fun x _=>rfl) (Nat.zero_add _) Om Dt Om Dt Dt (fun g1 c1 a2 a3=>?_)
 repeat (first|refine Tk ?_|intro _|exact Tz)
 exact WX.ret1 rfl (zO rfl) [⟨g1,53,xs.flatMap swC++mkz (c1 - xs.length) swZ⟩] (by repeat (first|exact Lle.nil|refine Lle.c ?_)) ⟨fun j=>match j with|0=>g1|_=>c1,rfl,rfl,a3,a2⟩
theorem aI:Fn Tryz.prog 117 [.slice none 0 0] Tr (Is (.slice none 0 0)):=by
 refine Fn.enter Tryz.func117 rfl rfl rfl ?_;intro w hw
 repeat (first|refine WO.does (nI (e:=119) Tryz.underlying57 rfl rfl) ?_|refine Tj ?_|intro _|refine Tc ?_|exact Tz)
 done
theorem adS (p:Option Addr) (n:Nat) (hc:n≤c):Fn Tryz.prog 112 [.slice p n c] Tr (Is (.slice p n n)):=by
 refine Fn.enter Tryz.func112 rfl rfl rfl ?_;intro w hw
 repeat (first|refine WO.does (vD rfl rfl rfl hc) ?_|refine Tj ?_|intro _|refine Tc ?_|exact Tz)
 done
theorem acy (p:Option Addr) (n:Nat) (hc:n≤c):Fn Tryz.prog 118 [.slice p n c] Tr (Is (.slice p n n)):=by
 refine Fn.enter Tryz.func118 rfl rfl rfl ?_;intro w hw
 repeat (first|refine WO.does (vD rfl rfl rfl hc) ?_|refine Tj ?_|intro _|refine Tc ?_|exact Tz)
 done
theorem aeJ (p:Option Addr) (n:Nat) (hc:n≤c):Fn Tryz.prog 116 [.slice p n c] Tr (Is (.slice p n n)):=by
 refine Fn.enter Tryz.func116 rfl rfl rfl ?_;intro w hw
 repeat (first|refine WO.does (vD rfl rfl rfl hc) ?_|refine Tj ?_|intro _|refine Tc ?_|exact Tz)
 done
end
end Sx
end
end Go.Proofs.YtiaibpcaloigkaaGreatDoor
