/- Part 45 of the proof. -/
import Derived.Test.YtiaibpcaloigkaaGreatDoorC42
import Derived.Test.YtiaibpcaloigkaaGreatDoorC44
set_option linter.unusedSimpArgs false
set_option linter.unusedVariables false
set_option maxHeartbeats 8000000
namespace Go.Proofs.YtiaibpcaloigkaaGreatDoor
section
open Go Go.RowKit Go.BigFrame
namespace Sx
attribute [local irreducible] DQ WC WO WX wd
theorem aaJ (ep d:Nat) (hd:d<256):Fn Tryz.prog 165 [.int .u64 (ep:Int),.int .u8 (d:Int)] Tr (Is (.agg #[.int .u64 (ep:Int),.int .u64 (d:Int)])):=by
 have hcv:IntKind.u64.wrap (d:Int)=(d:Int):=u64_in Om Om;refine Fn.enter Tryz.func165 rfl rfl rfl ?_;intro w hw
 repeat (first|refine Tj ?_|intro _|refine WO.does (zC rfl hcv) ?_|refine WO.does (zA (cs:=[.int .u64 (ep:Int),.int .u64 (d:Int)]) rfl rfl rfl) ?_|refine Tc ?_|exact Tz)
theorem jM (a b:Nat) (ha:a<18446744073709551616) (hb:b<18446744073709551616):Tryz.prog.keyLits 2 263 [.int .u64 (a:Int),.int .u64 (b:Int)]=some [.int .u64 (a:Int),.int .u64 (b:Int)]:=by
 have c1:Tryz.prog.cellsOf 263=2:=Kr
 have c2:Tryz.prog.cellsOf 22=1:=Kr
 have k1:=nc a ha;have k2:=nc b hb;have r:List.range 2=[0,1]:=rfl;unfold Program.keyLits;simp[Tryz.underlying263,c1,c2,r,k1,k2]
theorem fm (op:BinOp) (x y:Operand) (a b:Array Value) (w:World):(eqGuard op 263 x y (.agg a) (.agg b)).run Tryz.prog w=.ok () w:=by cases op<;>kernel_rfl
section
variable {w0:World} {gs:LN} {K:List (Nat × Value)} {L:List Ent}
theorem cv {x y:Operand} {yt ty:TypeId} {a b c d:Nat} (hx:ev K x=some (.agg #[.int .u64 (a:Int),.int .u64 (b:Int)])) (hy:ev K y=some (.agg #[.int .u64 (c:Int),.int .u64 (d:Int)]))
  (ha:a<18446744073709551616) (hb:b<18446744073709551616) (hc:c<18446744073709551616) (hd:d<18446744073709551616) :
  Does Tryz.prog w0 gs K L (.binOp .neq 263 x y yt) ty (.bool (!(decide (a=c) && decide (b=d)))):=by
 intro ac w hk _ o ho _
 obtain⟨r,hr,hiff⟩:=run_equalIn_deep (P:=Tryz.prog) 9998 2 263 Kr w 2 2 (.agg #[.int .u64 (a:Int),.int .u64 (b:Int)]) (.agg #[.int .u64 (c:Int),.int .u64 (d:Int)])
  [.int .u64 (a:Int),.int .u64 (b:Int)] [.int .u64 (c:Int),.int .u64 (d:Int)] Kr Kr (jM a b ha hb) (jM c d hc hd)
 have e:r=(decide (a=c) && decide (b=d)):=by
  rw[Bool.eq_iff_iff,hiff];simp only[Bool.and_eq_true,decide_eq_true_eq,List.cons.injEq,Lit.int.injEq,true_and,and_true,Int.ofNat_inj]
 subst e;simp only[execOp,ho,hk.eval hx,hk.eval hy,Sem.run_bind,fm,Result.andThen_ok,run_neq_struct,hr,Sem.run_pure]
theorem vn {x y:Operand} {yt ty:TypeId} {a b c d:Nat} {r:Bool} (hx:ev K x=some (.agg #[.int .u64 (a:Int),.int .u64 (b:Int)])) (hy:ev K y=some (.agg #[.int .u64 (c:Int),.int .u64 (d:Int)]))
  (ha:a<18446744073709551616) (hb:b<18446744073709551616) (hc:c<18446744073709551616) (hd:d<18446744073709551616) (hr:(!(decide (a=c) && decide (b=d)))=r) :
  Does Tryz.prog w0 gs K L (.binOp .neq 263 x y yt) ty (.bool r):=by
 subst hr;exact cv hx hy ha hb hc hd
end
section
variable (p q g h:Nat) (f sec:Int) (pt:Option Addr) (c:Nat) (N:LP)
theorem tY (n:Nat) (hn:n<256) (hNl:N.length≤1099511627776):Fn Tryz.prog 96 [stV p q g h f sec (.slice pt N.length c),.int .u8 (n:Int)] Tr (Is (.bool (ut n N))):=by
 have hcv:IntKind.i64.wrap (n:Int)=(n:Int):=i64_in Om Om;unfold ut
 by_cases h1:1≤n
 ·rw[decide_eq_true h1,Bool.true_and];have d1:decide ((1:Int)≤(n:Int))=true:=decide_eq_true Om;have d2:decide ((n:Int)≤(N.length:Int))=decide (n≤N.length):=by simp
  refine Fn.enter Tryz.func96 rfl rfl rfl ?_;intro w hw
  repeat (first|refine Tk ?_|intro _|exact Tz)
  rw[d1]
  repeat (first|refine Tj ?_|intro _|refine WO.does (zC rfl hcv) ?_|refine Tc ?_|exact Tz)
  rw[d2]
  repeat (first|refine Tk ?_|intro _|exact Tz)
 ·rw[decide_eq_false h1,Bool.false_and];have d1:decide ((1:Int)≤(n:Int))=false:=decide_eq_false Om;refine Fn.enter Tryz.func96 rfl rfl rfl ?_;intro w hw
  repeat (first|refine Tk ?_|intro _|exact Tz)
  rw[d1]
  repeat (first|refine Tk ?_|intro _|exact Tz)
end
section
variable {ls:List Od} {i o:Nat} {x:Od}
theorem eQ (h:ls[i]?=some x):cut (ls.flatMap odC) (o+i*15 - o) 15=odC x:=by
 rw[Nat.add_sub_cancel_left];exact yh (f:=odC) (k:=15) (fun _=>rfl) h
theorem afL {cs vs:LV} {a k j:Nat} {v:Value} (h:cut cs a k=vs) (hv:vs[j]?=some v) (hj:j<k):cs[a+j]?=some v:=by
 rw[← h] at hv;unfold cut at hv;rw[List.getElem?_take,if_pos hj,List.getElem?_drop] at hv;exact hv
theorem afB {cs vs us:LV} {a k j m:Nat} (h:cut cs a k=vs) (hv:cut vs j m=us) (hj:j+m≤k):cut cs (a+j) m=us:=by
 rw[← hv,← h];unfold cut;rw[List.drop_take,List.take_take,Nat.min_eq_left Om,List.drop_drop]
theorem agR (h:ls[i]?=some x) {j:Nat} {v:Value} (hv:(odC x)[j]?=some v) (hj:j<15):(ls.flatMap odC)[o+i*15+j - o]?=some v:=by
 have:=afL (eQ (o:=o) h) hv hj;rw[show o+i*15+j - o=o+i*15 - o+j by omega];exact this
end
def od0:Od:=⟨0,0,0,0,0,0⟩
def odB (p:Nat) (N:LP) (a o:Od):Bool:=decide (o.e=a.e) && decide (o.d=a.d) && ut o.n N && yw p o.z
def vQ (p q g h:Nat) (f sec:Int) (N:LP) (ls:List Od):Bool:=yW p q g h f sec N && decide (f+sec≤(ls.length:Int)) && ls.all (odB p N (ls.headD od0)) && decide ((ls.map Od.n).Nodup)
abbrev opV (ep d n z c s:Nat):Value:=.agg #[.int .u64 (ep:Int),.int .u8 (d:Int),.int .u8 (n:Int),.int .u64 ((wd 0 z:Nat):Int),.int .u64 ((wd 1 z:Nat):Int),.int .u64 ((wd 2 z:Nat):Int),.int .u64 ((wd 3 z:Nat):Int),.int .u64 ((wd 0 c:Nat):Int),.int .u64 ((wd 1 c:Nat):Int),.int .u64 ((wd 2 c:Nat):Int),.int .u64 ((wd 3 c:Nat):Int),.int .u64 ((wd 0 s:Nat):Int),.int .u64 ((wd 1 s:Nat):Int),.int .u64 ((wd 2 s:Nat):Int),.int .u64 ((wd 3 s:Nat):Int)]
def tx:ByteArray:=⟨#[111,112,101,110]⟩
def shK (N:LP) (n:Nat):Nat:=(N.getD (n - 1) (0,0)).2
def opZ (p q x y:Nat):Nat:=y ^ y7 x q%p
def opH (ep d n y z:Nat):List Nat:=hOf (zY tx) [abL ep d n,be 32 y,be 32 z]
def opD (q x ep d n y z:Nat):Nat:=vh q x (opH ep d n y z)
def afG (p q h x z draw:Nat):Nat:=okV (prB p q x h z draw) (prC p q (zY tx) x h z draw)
def opS (p q h x z draw:Nat):Nat:=okV (prB p q x h z draw) ((draw+x*prC p q (zY tx) x h z draw%q)%q)
def ah5 (p q h ep d n x y:Nat):Value:=opV ep d n (opZ p q x y) (afG p q h x (opZ p q x y) (opD q x ep d n y (opZ p q x y))) (opS p q h x (opZ p q x y) (opD q x ep d n y (opZ p q x y)))
def opA (p q g h:Nat) (f sec:Int) (N:LP) (n x:Nat):Bool:=yW p q g h f sec N && ut n N && jz p q h x (shK N n)
def opF (p q:Nat) (N:LP) (Y:LN) (n:Nat):Bool:=decide (Y.length=N.length) && gIn p q (Y.getD (n - 1) 0)
def opE (k:Int):Value:=.tuple #[opV 0 0 0 0 0 0,.int .i64 k]
def opR (p q g h:Nat) (f sec:Int) (N:LP) (ep d n x:Nat) (Y:LN):Value :=
 if opA p q g h f sec N n x then (if opF p q N Y n then (if qk x q=0 then .tuple #[ah5 p q h ep d n x (Y.getD (n - 1) 0),.int .i64 0] else opE 7) else opE 4) else opE 1
def eB (p q g h:Nat) (f sec:Int) (N:LP) (ep d:Nat) (Y:LN) (oe od n z c s:Nat):Bool :=
 yW p q g h f sec N && decide (oe=ep) && decide (od=d) && ut n N && decide (Y.length=N.length) && ckB p q (zY tx) h (shK N n) z (Y.getD (n - 1) 0) c s
theorem r8 {n:Nat} {N:LP} (h1:1≤n) (h2:n≤N.length):∃ k,N[n - 1]?=some k∧shK N n=k.2:=by
 have hlt:n - 1<N.length:=by omega
 exact⟨_,List.getElem?_eq_getElem hlt,by simp[shK,List.getD,List.getElem?_eq_getElem hlt]⟩
theorem dS (ep d n y z:Nat):∀ X∈[abL ep d n,be 32 y,be 32 z],∀ x∈X,x<256:=by
 intro X hX;simp only[List.mem_cons,List.not_mem_nil,or_false] at hX
 rcases hX with rfl|rfl|rfl
 ·exact acT
 ·exact um
 ·exact um
theorem eK (ep d n y z:Nat):(yH (zY tx) [abL ep d n,be 32 y,be 32 z]).length≤274877906944:=by
 simp only[yH,uQ,yU,List.flatMap_cons,List.flatMap_nil,List.length_append,zm,ym,List.length_nil,vL];decide
section
variable (p q g h:Nat)
theorem tI (x key:Nat) (hx:x<zd) (hk:key<zd) (hp:p<zd) (hq:q<zd) (hh:h<zd):Fn Tryz.prog 97 [vg p q g h,zj x,zj key] Tr (Is (.bool (jz p q h x key))):=by
 have hA:=qI p q g h x x hx hx hq;have hE:=vd p q g h h x hh hx hp;unfold jz;cases e1:zR x x q with
 | false =>
  rw[e1] at hA;rw[Bool.false_and,Bool.false_and];generalize (x+x)%q=R at *;refine Fn.enter Tryz.func97 rfl rfl rfl ?_;intro w hw
  repeat (first|refine Tj ?_|intro _|refine WO.acall (hc:=hA) (k:=?_)|refine WO.acall (hc:=hE) (k:=?_)|refine Tc ?_|exact Tz)
 | true =>
  rw[e1] at hA;cases e2:yw p h with
  | false =>
   rw[e2] at hE;rw[Bool.and_false,Bool.false_and];generalize (x+x)%q=R at *;generalize h ^ x%p=R' at *;refine Fn.enter Tryz.func97 rfl rfl rfl ?_;intro w hw
   repeat (first|refine Tj ?_|intro _|refine WO.acall (hc:=hA) (k:=?_)|refine WO.acall (hc:=hE) (k:=?_)|refine Tc ?_|exact Tz)
  | true =>
   rw[e2] at hE;have hl:h ^ x%p<zd:=Nat.lt_trans (eE e2) hp;rw[Bool.true_and,Bool.true_and];simp only[rE,vw] at hA hE;generalize (x+x)%q=R at *;generalize h ^ x%p=R' at *;refine Fn.enter Tryz.func97 rfl rfl rfl ?_;intro w hw
   repeat (first|refine Tj ?_|intro _|refine WO.acall (hc:=hA) (k:=?_)|refine WO.acall (hc:=hE) (k:=?_)|refine WO.does yJ ?_|refine Tc ?_|exact Tz)
theorem afD (x:Nat) (H:LN) (hx:x<zd) (hq:q<zd) (h0:0<q) (hH:∀ b∈H,b<256) (hl:H.length=32):Fn Tryz.prog 100 [vg p q g h,zj x,.agg (byC H).toArray] Tr (Is (zj (vh q x H))):=by
 have hP:=y9 [] x 0 none Dt;rw[List.nil_append] at hP;have hbl:(be 32 x).length=32:=zm _ _;rw[hbl] at hP;have hN:=fun g3 g5 gR=>sT q my [AX g3 32 32,AX g5 32 32] [be 32 x,H] gR 0 2 hq h0 (by
  intro X hX;simp only[List.mem_cons,List.not_mem_nil,or_false] at hX
  rcases hX with rfl|rfl
  ·exact um
  ·exact hH) (by
  simp only[yH,uQ,yU,List.flatMap_cons,List.flatMap_nil,List.length_append,zm,ym,List.length_nil,hl];decide) Dt
 have hlt:nF q (zY my) [be 32 x,H] < zd:=Nat.lt_trans (Nat.mod_lt _ h0) hq;unfold vh;generalize nF q (zY my) [be 32 x,H]=R at *;have hbH:(byC H).length=32:=by rw[zh,hl]
 refine Fn.enter Tryz.func100 rfl rfl rfl ?_;intro w hw
 repeat (first|refine Tk ?_|intro _|exact Tz)
 rename_i g3 g4 g5 g6;refine WC.adrawF [9] 11 (k:=?_)
 iterate 3 (refine DQ.auto (k:=?_))
 refine DQ.acallS (hc:=hP) (hR:=fun _=>Rd.nil) (k:=?_);refine DQ.does (v:=fun _=>AX g5 32 32) (fun s _=>yL rfl) Dp.const ?_;refine DQ.makes (vf:=fun _ g=>AX g 2 2) (t:=126) (cs:=fun s=>[AX (s 3 0) 32 32,AX g5 32 32]) (fun s _=>zi rfl Dt rfl) Dp.const (by intro s s' h;dsimp only;rw[h]<;>decide +kernel) ?_;refine DQ.callE (v:=fun _=>.tuple #[zj R,.int .i64 0]) (fun s=>[⟨s 5 0,126,[AX (s 3 0) 32 32,AX g5 32 32]⟩,⟨s 3 0,5,byC (be 32 x)⟩]) (fun s=>.cons 5 (.head _) Dkk (.cons 3 Mh.a Dkk .nil)) (fun s _=>hN (s 3 0) g5 (s 5 0)) (fun s=>rfl) (fun s hC w hm=>⟨Hs.seg Hs.here hm,z7.cons (by have:=RdP.own0 (g:=s 3 0) (c:=32) (X:=be 32 x) (t:=5) hm (Hs.there Hs.here) Om Dt;rw[hbl] at this;exact this) (z7.cons (by have:=RdP.own0 (g:=g5) (c:=32) (X:=H) (t:=70) hm Hs.a Om Dt;rw[hl] at this;exact this) z7.nil)⟩) Dp.const ?_
 repeat (first|refine Da ?_|refine Df ?_)
 refine DQ.anil (k:=?_);intro sx _
 repeat (first|refine Tj ?_|intro _|refine WO.does yJ ?_|refine Tc ?_|exact Tz)
 by_cases hR:R=0
 ·have d:decide (R=0)=true:=decide_eq_true hR;rw[if_pos hR,d]
  repeat (first|refine Tj ?_|intro _|refine WO.does (zA (cs:=zc 1) rfl rfl Kr) ?_|refine Tc ?_|exact Tz)
 ·have d:decide (R=0)=false:=decide_eq_false hR;rw[if_neg hR,d]
  repeat (first|refine Tk ?_|intro _|exact Tz)
end
def aah (n:Nat) (M:Nat) (ls:List Od):List Od:=(byN n ls).take M
def rKs (n M:Nat) (ls:List Od):List Nat:=(aah n M ls).map fun o=>o.n - 1
def rZs (n M:Nat) (ls:List Od):List Nat:=(aah n M ls).map Od.z
def RsP (b:Bool) (P:Value→List Ent→Prop):Value→List Ent→Prop:=fun v N=>(b=true→P v N)∧(b=false→v=aib)
theorem RsP.no {b:Bool} {P:Value→List Ent→Prop} {N:List Ent} (h:b=false):RsP b P aib N:=⟨fun e=>(by rw[h] at e;cases e),fun _=>rfl⟩
theorem RsP.ok {b:Bool} {P:Value→List Ent→Prop} {v:Value} {N:List Ent} (h:b=true) (k:P v N):RsP b P v N:=⟨fun _=>k,fun e=>(by rw[h] at e;cases e)⟩
theorem abq {n:Nat} {l:List Od} (hd:(l.map Od.n).Nodup) (hn:∀ o∈l,1≤o.n∧o.n≤n):(byN n l).Perm l:=by
 have h:=iu (arr:=l.mergeSort (fun a b=>decide (a.n≤b.n))) (List.mergeSort_perm l _) (by
  have:=List.pairwise_mergeSort (le:=fun a b:Od=>decide (a.n≤b.n)) (by intro a b c h1 h2;simp at h1 h2 ⊢;omega) (by intro a b;simp;omega) l;exact this.imp (fun h=>by simpa using h)) hd hn
 rw[← h];exact List.mergeSort_perm l _
section
variable {p q g h:Nat} {f sec:Int} {N:LP} {ls:List Od}
theorem si {x:Od} (hx:x∈ls) (ho:odB p N (ls.headD od0) x=false):vQ p q g h f sec N ls=false:=by
 unfold vQ
 rw[show ls.all (odB p N (ls.headD od0))=false by
  rw[List.all_eq_false];exact⟨x,hx,by rw[ho];decide⟩,Bool.and_false];rfl
theorem dB (hs:yW p q g h f sec N=true) (hl:f+sec≤(ls.length:Int)) (ha:∀ (j:Nat) (x:Od),ls[j]?=some x→odB p N (ls.headD od0) x=true) (hd:∀ (k j:Nat) (x y:Od),k<j→ls[k]?=some y→ls[j]?=some x→y.n≠x.n):vQ p q g h f sec N ls=true:=by
 unfold vQ;rw[hs,decide_eq_true hl,List.all_eq_true.2 (fun x hx=>by obtain⟨j,hj⟩:=List.getElem?_of_mem hx;exact ha j x hj),decide_eq_true]
 ·rfl
 ·rw[List.Nodup,List.pairwise_map,List.pairwise_iff_getElem];intro i j hi hj hij;exact hd i j _ _ hij (List.getElem?_eq_getElem hi) (List.getElem?_eq_getElem hj)
theorem r7 (hB:vQ p q g h f sec N ls=true):yW p q g h f sec N=true∧f+sec≤(ls.length:Int)∧(∀ x∈ls,odB p N (ls.headD od0) x=true)∧(ls.map Od.n).Nodup:=by
 unfold vQ at hB;simp only[Bool.and_eq_true,decide_eq_true_eq,List.all_eq_true] at hB;exact⟨hB.1.1.1,hB.1.1.2,hB.1.2,hB.2⟩
theorem tU {a x:Od} (hB:odB p N a x=true):x.e=a.e∧x.d=a.d∧1≤x.n∧x.n≤N.length∧yw p x.z=true:=by
 unfold odB at hB;simp only[Bool.and_eq_true,decide_eq_true_eq] at hB;have:=yr hB.1.2;exact⟨hB.1.1.1,hB.1.1.2,this.1,this.2,hB.2⟩
end
def kI (o:Od):List Value:=iK (o.n - 1)
def zI (o:Od):List Value:=zc o.z
theorem ag2 {n M c:Nat} {ls:List Od} {r:LV} {w:World} {gg:Nat} (hs:Seg w gg 0 ((byN n ls).flatMap kI++r)) (hM:M≤(byN n ls).length):RdF iK (AX gg M c) (rKs n M ls) w:=by
 have h:RdF iK (AX gg (byN n ls).length c) ((byN n ls).map fun o=>o.n - 1) w:=RdF.ownR (r:=r) (by rw[List.flatMap_map];exact hs) Sm;have h2:=RdF.take (c':=c) h (i:=M) (by rw[List.length_map];exact hM);unfold rKs aah;rw[List.map_take];exact h2
theorem agO {n M c:Nat} {ls:List Od} {r:LV} {w:World} {gg:Nat} (hs:Seg w gg 0 ((byN n ls).flatMap zI++r)) (hM:M≤(byN n ls).length):RdF zc (AX gg M c) (rZs n M ls) w:=by
 have h:RdF zc (AX gg (byN n ls).length c) ((byN n ls).map Od.z) w:=RdF.ownR (r:=r) (by rw[List.flatMap_map];exact hs) Sm;have h2:=RdF.take (c':=c) h (i:=M) (by rw[List.length_map];exact hM);unfold rZs aah;rw[List.map_take];exact h2
theorem aI {ls:List Od} {x:Od} (h:ls[0]?=some x):ls.headD od0=x:=by
 cases ls with
 | nil=>cases h
 | cons a r=>simpa using h
structure aij (p q M:Nat) (ks zs:LN):Prop where
 nd:ks.Nodup
 lt:∀ k∈ks,k<7∧k+1<q
 kl:ks.length=M
 zl:zs.length=M
 zs:aai p zs
theorem ah6 {p q g h:Nat} {f sec:Int} {N:LP} {ls:List Od} {M:Nat} (hB:vQ p q g h f sec N ls=true) (hN7:N.length≤7) (hNq:N.length<q) (hM:M≤ls.length) (hls:∀ o∈ls,ae6 o):(byN N.length ls).length=ls.length∧aij p q M (rKs N.length M ls) (rZs N.length M ls):=by
 obtain⟨_,_,ho,hd⟩:=r7 hB;have hb:∀ o∈ls,1≤o.n∧o.n≤N.length:=fun o h=>⟨(tU (ho o h)).2.2.1,(tU (ho o h)).2.2.2.1⟩;have hp:=abq hd hb;have hl:=hp.length_eq;have hm:∀ o∈aah N.length M ls,o∈ls:=fun o h=>(lW hb).1 (List.mem_of_mem_take h);have hal:(aah N.length M ls).length=M:=by unfold aah;rw[List.length_take];omega
 refine⟨hl,?_,fun k hk=>?_,by unfold rKs;rw[List.length_map,hal],by unfold rZs;rw[List.length_map,hal],fun z hz=>?_,fun z hz=>?_⟩
 ·unfold rKs;rw[List.Nodup,List.pairwise_map];have hs:(aah N.length M ls).Pairwise (fun a b=>a.n<b.n):=(pd hd).sublist (List.take_sublist _ _);refine hs.imp_of_mem ?_;intro a b ha _ hab;have:=hb a (hm a ha);omega
 ·unfold rKs at hk;obtain⟨o,h1,rfl⟩:=List.mem_map.1 hk;have:=hb o (hm o h1);omega
 ·unfold rZs at hz;obtain⟨o,h1,rfl⟩:=List.mem_map.1 hz;exact (hls o (hm o h1)).z
 ·unfold rZs at hz;obtain⟨o,h1,rfl⟩:=List.mem_map.1 hz;exact (tU (ho o (hm o h1))).2.2.2.2
section
variable (p q g h:Nat) (f sec:Int) (pt:Option Addr) (c:Nat) (N:LP) (ep d n x:Nat) (pY:Option Addr) (cY:Nat) (Y:LN) (sC sS:Nat)
theorem abc (pV pP:Value) (hp:p<zd) (hq:q<zd) (hg:g<zd) (hh:h<zd) (hN:zV N) (hNl:N.length≤100)
  (hf1 : -9223372036854775808≤f) (hf2:f≤9223372036854775807) (hs1 : -9223372036854775808≤sec) (hs2:sec≤9223372036854775807) (hn:n<256) (hx:x<zd)
  (hA:opA p q g h f sec N n x=false) :
  Fn Tryz.prog 37 [stV p q g h f sec (.slice pt N.length c),dlV ep d pV (.slice pY Y.length cY) pP sC sS,.int .u8 (n:Int),zj x] (fun w=>RdK (.slice pt N.length c) N w∧RdF zc (.slice pY Y.length cY) Y w) (Is (opE 1)):=by
 have hS:=z8 p q g h f sec pt c N hp hq hg hh hN Om hf1 hf2 hs1 hs2;have hNd:=tY p q g h f sec pt c N n hn Om;cases e1:yW p q g h f sec N with
 | false =>
  rw[e1] at hS;clear hA hNd hN hNl hf1 hf2 hs1 hs2 hn hx hp hq hg hh;refine Fn.enter Tryz.func37 rfl rfl rfl ?_;intro w hw;obtain⟨hwK,hwY⟩:=hw
  repeat (first|refine Tk ?_|intro _|exact Tz)
  refine WC.adraw 23 (k:=?_)
  iterate 23 (first|refine Da ?_|refine DQ.acallR (hc:=hS) (hR:=fun w hm=>hwK.mod hm.mod) (k:=?_)|refine Dc ?_)
  refine DQ.anil (k:=?_);intro sx _
  repeat (first|refine Tk ?_|intro _|exact Tz)
  done
 | true =>
 rw[e1] at hS;cases e2:ut n N with
 | false =>
  rw[e2] at hNd;clear hA hN hNl hf1 hf2 hs1 hs2 hn hx hp hq hg hh;refine Fn.enter Tryz.func37 rfl rfl rfl ?_;intro w hw;obtain⟨hwK,hwY⟩:=hw
  repeat (first|refine Tk ?_|intro _|exact Tz)
  refine WC.adraw 23 (k:=?_)
  iterate 23 (first|refine Da ?_|refine DQ.acallR (hc:=hS) (hR:=fun w hm=>hwK.mod hm.mod) (k:=?_)|refine DQ.acall (hc:=hNd) (k:=?_)|refine Dc ?_)
  refine DQ.anil (k:=?_);intro sx _
  repeat (first|refine Tk ?_|intro _|exact Tz)
  done
 | true =>
 rw[e2] at hNd;have e3:jz p q h x (shK N n)=false:=by simpa [opA,e1,e2] using hA
 obtain⟨hn1,hn2⟩:=yr e2;obtain⟨k,hk,hsk⟩:=r8 hn1 hn2;have hkb:=(hN k (List.mem_of_getElem? hk)).2;have hSec:=tI p q g h x k.2 hx hkb hp hq hh;rw[hsk] at e3;rw[e3] at hSec;have hsub:IntKind.u8.wrap ((n:Int) - 1)=((n - 1:Nat):Int):=ua Om Om Om;have hlt:n - 1<N.length:=by omega
 clear hA hN hNl hf1 hf2 hs1 hs2 hx hp hq hg hh hkb;refine Fn.enter Tryz.func37 rfl rfl rfl ?_;intro w hw;obtain⟨hwK,hwY⟩:=hw;obtain⟨pt',c',e,hpc⟩:=id hwK;cases e
 rcases hpc with ⟨_,h0⟩|⟨b,o,rfl,hs⟩
 ·rw[h0] at hlt;simp at hlt
 repeat (first|refine Tk ?_|intro _|exact Tz)
 refine WC.adraw 23 (k:=?_)
 iterate 23 (first|refine Da ?_|refine DQ.acallR (hc:=hS) (hR:=fun w hm=>hwK.mod hm.mod) (k:=?_)|refine DQ.acall (hc:=hNd) (k:=?_)|refine DQ.acall (hc:=hSec) (k:=?_)|refine DQ.does (fun s _=>zr rfl rfl hsub) Dp.const ?_|refine DQ.does (fun s _=>zb (i:=n - 1) (o':=o+(n - 1)*8) rfl rfl hlt rfl) Dp.const ?_|refine DQ.does (fun s _=>zk (vs:=zc k.2) (hs:=hs) (hle:=by omega) (hc:=uz hk)) Dp.const ?_|refine Dc ?_)
 refine DQ.anil (k:=?_);intro sx _
 repeat (first|refine Tk ?_|intro _|exact Tz)
 done
theorem abt (pV pP:Value) (hp:p<zd) (hq:q<zd) (hg:g<zd) (hh:h<zd) (hN:zV N) (hNl:N.length≤100)
  (hf1 : -9223372036854775808≤f) (hf2:f≤9223372036854775807) (hs1 : -9223372036854775808≤sec) (hs2:sec≤9223372036854775807) (hn:n<256) (hx:x<zd) (hYb:∀ y∈Y,y<zd)
  (hA:opA p q g h f sec N n x=true) (hF:opF p q N Y n=false) :
  Fn Tryz.prog 37 [stV p q g h f sec (.slice pt N.length c),dlV ep d pV (.slice pY Y.length cY) pP sC sS,.int .u8 (n:Int),zj x] (fun w=>RdK (.slice pt N.length c) N w∧RdF zc (.slice pY Y.length cY) Y w) (Is (opE 4)):=by
 have hS:=z8 p q g h f sec pt c N hp hq hg hh hN Om hf1 hf2 hs1 hs2;have hNd:=tY p q g h f sec pt c N n hn Om;simp only[opA,Bool.and_eq_true] at hA;obtain⟨⟨e1,e2⟩,e3⟩:=hA;rw[e1] at hS;rw[e2] at hNd;obtain⟨hn1,hn2⟩:=yr e2;obtain⟨k,hk,hsk⟩:=r8 hn1 hn2;have hkb:=(hN k (List.mem_of_getElem? hk)).2;have hSec:=tI p q g h x k.2 hx hkb hp hq hh;rw[hsk] at e3;rw[e3] at hSec;have hsub:IntKind.u8.wrap ((n:Int) - 1)=((n - 1:Nat):Int):=ua Om Om Om;have hlt:n - 1<N.length:=by omega
 by_cases hYl:Y.length=N.length
 ·have hly:n - 1<Y.length:=by omega
  obtain⟨y,hy⟩ : ∃ y,Y[n - 1]?=some y:=⟨_,List.getElem?_eq_getElem hly⟩;have hgy:Y.getD (n - 1) 0=y:=by simp[List.getD,hy]
  have hyb:=hYb y (List.mem_of_getElem? hy);have hIn:=tR p q g h y hyb hp hq;have e4:gIn p q y=false:=by unfold opF at hF;rw[hgy,decide_eq_true hYl,Bool.true_and] at hF;exact hF
  rw[e4] at hIn;have heq:(Y.length:Int)=(N.length:Int):=by omega
  clear hF hYb hN hNl hf1 hf2 hs1 hs2 hx hp hq hg hh hkb hyb e1 e2 e3;refine Fn.enter Tryz.func37 rfl rfl rfl ?_;intro w hw;obtain⟨hwK,hwY⟩:=hw;obtain⟨pt',c',e,hpc⟩:=id hwK;cases e
  rcases hpc with ⟨_,h0⟩|⟨b,o,rfl,hs⟩
  ·rw[h0] at hlt;simp at hlt
  obtain⟨pt2,c2,e,hpy⟩:=hwY;cases e
  rcases hpy with ⟨_,h0⟩|⟨bY,oY,rfl,hY⟩
  ·rw[h0] at hly;simp at hly
  have hcy:cut (Y.flatMap zc) (oY+(n - 1)*4 - oY) 4=zc y:=by rw[Nat.add_sub_cancel_left];exact zB zL hy
  repeat (first|refine Tk ?_|intro _|exact Tz)
  refine WC.adraw 23 (k:=?_)
  iterate 23 (first|refine Da ?_|refine DQ.acallR (hc:=hS) (hR:=fun w hm=>hwK.mod hm.mod) (k:=?_)|refine DQ.acall (hc:=hNd) (k:=?_)|refine DQ.acall (hc:=hSec) (k:=?_)|refine DQ.does (fun s _=>zr rfl rfl hsub) Dp.const ?_|refine DQ.does (fun s _=>zb (i:=n - 1) (o':=o+(n - 1)*8) rfl rfl hlt rfl) Dp.const ?_|refine DQ.does (fun s _=>zk (vs:=zc k.2) (hs:=hs) (hle:=by omega) (hc:=uz hk)) Dp.const ?_|refine Dc ?_)
  refine DQ.anil (k:=?_);intro sx _
  repeat (first|refine Tk ?_|intro _|exact Tz)
  refine WC.adraw 18 (k:=?_)
  iterate 18 (first|refine Da ?_|refine DQ.does (fun s _=>zt rfl rfl heq) Dp.const ?_|refine DQ.acall (hc:=hIn) (k:=?_)|refine DQ.does (fun s _=>zr rfl rfl hsub) Dp.const ?_|refine DQ.does (fun s _=>zb (i:=n - 1) (o':=oY+(n - 1)*4) rfl rfl hly rfl) Dp.const ?_|refine DQ.does (fun s _=>zk (vs:=zc y) (hs:=hY) (hle:=Nat.le_add_right _ _) (hc:=hcy)) Dp.const ?_|refine Dc ?_)
  refine DQ.anil (k:=?_);intro sx _
  repeat (first|refine Tk ?_|intro _|exact Tz)
  done
 ·have hne:(Y.length:Int)≠(N.length:Int):=by omega
  clear hF hYb hN hNl hf1 hf2 hs1 hs2 hx hp hq hg hh hkb e1 e2 e3;refine Fn.enter Tryz.func37 rfl rfl rfl ?_;intro w hw;obtain⟨hwK,hwY⟩:=hw;obtain⟨pt',c',e,hpc⟩:=id hwK;cases e
  rcases hpc with ⟨_,h0⟩|⟨b,o,rfl,hs⟩
  ·rw[h0] at hlt;simp at hlt
  repeat (first|refine Tk ?_|intro _|exact Tz)
  refine WC.adraw 23 (k:=?_)
  iterate 23 (first|refine Da ?_|refine DQ.acallR (hc:=hS) (hR:=fun w hm=>hwK.mod hm.mod) (k:=?_)|refine DQ.acall (hc:=hNd) (k:=?_)|refine DQ.acall (hc:=hSec) (k:=?_)|refine DQ.does (fun s _=>zr rfl rfl hsub) Dp.const ?_|refine DQ.does (fun s _=>zb (i:=n - 1) (o':=o+(n - 1)*8) rfl rfl hlt rfl) Dp.const ?_|refine DQ.does (fun s _=>zk (vs:=zc k.2) (hs:=hs) (hle:=by omega) (hc:=uz hk)) Dp.const ?_|refine Dc ?_)
  refine DQ.anil (k:=?_);intro sx _
  repeat (first|refine Tk ?_|intro _|exact Tz)
  refine WC.adraw 18 (k:=?_)
  iterate 18 (first|refine Da ?_|refine DQ.does (fun s _=>zZ rfl rfl hne) Dp.const ?_|refine Dc ?_)
  refine DQ.anil (k:=?_);intro sx _
  repeat (first|refine Tk ?_|intro _|exact Tz)
  done
theorem aa9 (pV pP:Value) (hp:p<zd) (hq:q<zd) (hg:g<zd) (hh:h<zd) (hN:zV N) (hNl:N.length≤100)
  (hf1 : -9223372036854775808≤f) (hf2:f≤9223372036854775807) (hs1 : -9223372036854775808≤sec) (hs2:sec≤9223372036854775807) (hn:n<256) (hx:x<zd) (hYb:∀ y∈Y,y<zd)
  (hA:opA p q g h f sec N n x=true) (hF:opF p q N Y n=true) (hI:qk x q≠0) :
  Fn Tryz.prog 37 [stV p q g h f sec (.slice pt N.length c),dlV ep d pV (.slice pY Y.length cY) pP sC sS,.int .u8 (n:Int),zj x] (fun w=>RdK (.slice pt N.length c) N w∧RdF zc (.slice pY Y.length cY) Y w) (Is (opE 7)):=by
 have hS:=z8 p q g h f sec pt c N hp hq hg hh hN Om hf1 hf2 hs1 hs2;have hNd:=tY p q g h f sec pt c N n hn Om;simp only[opA,Bool.and_eq_true] at hA;obtain⟨⟨e1,e2⟩,e3⟩:=hA;rw[e1] at hS;rw[e2] at hNd;obtain⟨hn1,hn2⟩:=yr e2;obtain⟨k,hk,hsk⟩:=r8 hn1 hn2;have hkb:=(hN k (List.mem_of_getElem? hk)).2;have hSec:=tI p q g h x k.2 hx hkb hp hq hh;rw[hsk] at e3;rw[e3] at hSec;have hsub:IntKind.u8.wrap ((n:Int) - 1)=((n - 1:Nat):Int):=ua Om Om Om;have hlt:n - 1<N.length:=by omega
 simp only[opF,Bool.and_eq_true,decide_eq_true_eq] at hF;obtain⟨hYl,e4⟩:=hF;have hly:n - 1<Y.length:=by omega
 obtain⟨y,hy⟩ : ∃ y,Y[n - 1]?=some y:=⟨_,List.getElem?_eq_getElem hly⟩;have hgy:Y.getD (n - 1) 0=y:=by simp[List.getD,hy]
 rw[hgy] at e4;have hyb:=hYb y (List.mem_of_getElem? hy);have hIn:=tR p q g h y hyb hp hq;rw[e4] at hIn;have heq:(Y.length:Int)=(N.length:Int):=by omega
 have hmx:=jO e3;have hInv:=j1 p q g h x hx hq;rw[hmx,vw] at hInv;clear hYb hN hNl hf1 hf2 hs1 hs2 hx hp hq hg hh hkb hyb e1 e2 e3;generalize qk x q=E at *;generalize y7 x q=V at *;refine Fn.enter Tryz.func37 rfl rfl rfl ?_;intro w hw;obtain⟨hwK,hwY⟩:=hw;obtain⟨pt',c',e,hpc⟩:=id hwK;cases e
 rcases hpc with ⟨_,h0⟩|⟨b,o,rfl,hs⟩
 ·rw[h0] at hlt;simp at hlt
 obtain⟨pt2,c2,e,hpy⟩:=hwY;cases e
 rcases hpy with ⟨_,h0⟩|⟨bY,oY,rfl,hY⟩
 ·rw[h0] at hly;simp at hly
 have hcy:cut (Y.flatMap zc) (oY+(n - 1)*4 - oY) 4=zc y:=by rw[Nat.add_sub_cancel_left];exact zB zL hy
 repeat (first|refine Tk ?_|intro _|exact Tz)
 refine WC.adraw 23 (k:=?_)
 iterate 23 (first|refine Da ?_|refine DQ.acallR (hc:=hS) (hR:=fun w hm=>hwK.mod hm.mod) (k:=?_)|refine DQ.acall (hc:=hNd) (k:=?_)|refine DQ.acall (hc:=hSec) (k:=?_)|refine DQ.does (fun s _=>zr rfl rfl hsub) Dp.const ?_|refine DQ.does (fun s _=>zb (i:=n - 1) (o':=o+(n - 1)*8) rfl rfl hlt rfl) Dp.const ?_|refine DQ.does (fun s _=>zk (vs:=zc k.2) (hs:=hs) (hle:=by omega) (hc:=uz hk)) Dp.const ?_|refine Dc ?_)
 refine DQ.anil (k:=?_);intro sx _
 repeat (first|refine Tk ?_|intro _|exact Tz)
 refine WC.adraw 18 (k:=?_)
 iterate 18 (first|refine Da ?_|refine DQ.does (fun s _=>zt rfl rfl heq) Dp.const ?_|refine DQ.acall (hc:=hIn) (k:=?_)|refine DQ.does (fun s _=>zr rfl rfl hsub) Dp.const ?_|refine DQ.does (fun s _=>zb (i:=n - 1) (o':=oY+(n - 1)*4) rfl rfl hly rfl) Dp.const ?_|refine DQ.does (fun s _=>zk (vs:=zc y) (hs:=hY) (hle:=Nat.le_add_right _ _) (hc:=hcy)) Dp.const ?_|refine Dc ?_)
 refine DQ.anil (k:=?_);intro sx _
 repeat (first|refine Tj ?_|intro _|refine WO.does (zr rfl rfl hsub) ?_|refine WO.does (zb (i:=n - 1) (o':=oY+(n - 1)*4) rfl rfl hly rfl) ?_|refine WO.does (zk (vs:=zc y) (hs:=hY) (hle:=Nat.le_add_right _ _) (hc:=hcy)) ?_|refine WO.acall (hc:=hInv) (k:=?_)|refine WO.does (zZ rfl rfl hI) ?_|refine Tc ?_|exact Tz)
 done
theorem aaV (pV pP:Value) (hp:p<zd) (hq:q<zd) (hg:g<zd) (hh:h<zd) (hN:zV N) (hNl:N.length≤100)
  (hf1 : -9223372036854775808≤f) (hf2:f≤9223372036854775807) (hs1 : -9223372036854775808≤sec) (hs2:sec≤9223372036854775807) (hn:n<256) (hx:x<zd) (hYb:∀ y∈Y,y<zd) (hep:ep<18446744073709551616) (hd:d<256)
  (hA:opA p q g h f sec N n x=true) (hF:opF p q N Y n=true) (hI:qk x q=0) :
  Fn Tryz.prog 37 [stV p q g h f sec (.slice pt N.length c),dlV ep d pV (.slice pY Y.length cY) pP sC sS,.int .u8 (n:Int),zj x] (fun w=>RdK (.slice pt N.length c) N w∧RdF zc (.slice pY Y.length cY) Y w) (Is (.tuple #[ah5 p q h ep d n x (Y.getD (n - 1) 0),.int .i64 0])):=by
 have hS:=z8 p q g h f sec pt c N hp hq hg hh hN Om hf1 hf2 hs1 hs2;have hNd:=tY p q g h f sec pt c N n hn Om;simp only[opA,Bool.and_eq_true] at hA;obtain⟨⟨e1,e2⟩,e3⟩:=hA;rw[e1] at hS;rw[e2] at hNd;obtain⟨hn1,hn2⟩:=yr e2;obtain⟨k,hk,hsk⟩:=r8 hn1 hn2;have hkb:=(hN k (List.mem_of_getElem? hk)).2;have hSec:=tI p q g h x k.2 hx hkb hp hq hh;rw[hsk] at e3;rw[e3] at hSec;have hsub:IntKind.u8.wrap ((n:Int) - 1)=((n - 1:Nat):Int):=ua Om Om Om;have hlt:n - 1<N.length:=by omega
 simp only[opF,Bool.and_eq_true,decide_eq_true_eq] at hF;obtain⟨hYl,e4⟩:=hF;have hly:n - 1<Y.length:=by omega
 obtain⟨y,hy⟩ : ∃ y,Y[n - 1]?=some y:=⟨_,List.getElem?_eq_getElem hly⟩;have hgy:Y.getD (n - 1) 0=y:=by simp[List.getD,hy]
 rw[hgy] at e4;have hyb:=hYb y (List.mem_of_getElem? hy);have hIn:=tR p q g h y hyb hp hq;rw[e4] at hIn;have heq:(Y.length:Int)=(N.length:Int):=by omega
 have hmx:=jO e3;have hInv:=j1 p q g h x hx hq;rw[hmx,vw] at hInv;rw[hgy];have hib:y7 x q<zd:=Nat.lt_trans (lZ (zN hmx).1 (zN hmx).2.1) hq;have hE:=vd p q g h y (y7 x q) hyb hib hp;rw[yC e4] at hE;simp only[rE,vw] at hE;have hzb:y ^ y7 x q%p<zd:=Nat.lt_trans (eE (yC e4)) hp;have hq0:0<q:=by have:=(zN hmx).1;omega
 have hHlen:(byC (opH ep d n y (opZ p q x y))).length=32:=by rw[zh];exact yM _ _
 have hDr:=afD p q g h x (opH ep d n y (opZ p q x y)) hx hq hq0 (sF _ _) (yM _ _);have hdb:opD q x ep d n y (opZ p q x y)<zd:=oJ hq0 hq;have hPr:=bQ p q g h tx x h (opZ p q x y) (opD q x ep d n y (opZ p q x y)) hp hq hx hh hzb hdb Dt;have hPl:=dS ep d n y (opZ p q x y);have hHl:=eK ep d n y (opZ p q x y);unfold ah5;rw[show vh q x (opH ep d n y (opZ p q x y))=opD q x ep d n y (opZ p q x y) from rfl] at hDr;simp only[prV] at hPr;rw[show okV (prB p q x h (opZ p q x y) (opD q x ep d n y (opZ p q x y))) (prC p q (zY tx) x h (opZ p q x y) (opD q x ep d n y (opZ p q x y)))=afG p q h x (opZ p q x y) (opD q x ep d n y (opZ p q x y)) from rfl,show okV (prB p q x h (opZ p q x y) (opD q x ep d n y (opZ p q x y))) ((opD q x ep d n y (opZ p q x y)+x*prC p q (zY tx) x h (opZ p q x y) (opD q x ep d n y (opZ p q x y))%q)%q)=opS p q h x (opZ p q x y) (opD q x ep d n y (opZ p q x y)) from rfl] at hPr;generalize okE (prB p q x h (opZ p q x y) (opD q x ep d n y (opZ p q x y)))=pE at hPr;generalize afG p q h x (opZ p q x y) (opD q x ep d n y (opZ p q x y))=cc at *;generalize opS p q h x (opZ p q x y) (opD q x ep d n y (opZ p q x y))=cs at *;generalize opD q x ep d n y (opZ p q x y)=D at *;rw[show y ^ y7 x q%p=opZ p q x y from rfl] at hE hzb;generalize opZ p q x y=z at *;have hP0:=jq [] ep 8 0 none Dt Dt;rw[List.nil_append,zm] at hP0;have hPy:=y9 [] y 0 none Dt;rw[List.nil_append,zm] at hPy;have hPz:=y9 [] z 0 none Dt;rw[List.nil_append,zm] at hPz;have hO:=fun g1 c1 g2 g3 gR=>fz tx [AX g1 10 c1,AX g2 32 32,AX g3 32 32] [abL ep d n,be 32 y,be 32 z] gR 0 3 hPl (Nat.le_trans hHl Dt) Dt;rw[show hOf (zY tx) [abL ep d n,be 32 y,be 32 z]=opH ep d n y z from rfl] at hO;generalize opH ep d n y z=H at *;generalize y7 x q=V at *;generalize qk x q=E at *;subst hI;clear hYb hN hNl hf1 hf2 hs1 hs2 hx hp hq hg hh hkb hyb e1 e2 e3 hib hdb hzb;refine Fn.enter Tryz.func37 rfl rfl rfl ?_;intro w hw;obtain⟨hwK,hwY⟩:=hw;obtain⟨pt',c',e,hpc⟩:=id hwK;cases e
 rcases hpc with ⟨_,h0⟩|⟨b,o,rfl,hs⟩
 ·rw[h0] at hlt;simp at hlt
 obtain⟨pt2,c2,e,hpy⟩:=hwY;cases e
 rcases hpy with ⟨_,h0⟩|⟨bY,oY,rfl,hY⟩
 ·rw[h0] at hly;simp at hly
 have hcy:cut (Y.flatMap zc) (oY+(n - 1)*4 - oY) 4=zc y:=by rw[Nat.add_sub_cancel_left];exact zB zL hy
 repeat (first|refine Tk ?_|intro _|exact Tz)
 refine WC.adraw 23 (k:=?_)
 iterate 23 (first|refine Da ?_|refine DQ.acallR (hc:=hS) (hR:=fun w hm=>hwK.mod hm.mod) (k:=?_)|refine DQ.acall (hc:=hNd) (k:=?_)|refine DQ.acall (hc:=hSec) (k:=?_)|refine DQ.does (fun s _=>zr rfl rfl hsub) Dp.const ?_|refine DQ.does (fun s _=>zb (i:=n - 1) (o':=o+(n - 1)*8) rfl rfl hlt rfl) Dp.const ?_|refine DQ.does (fun s _=>zk (vs:=zc k.2) (hs:=hs) (hle:=by omega) (hc:=uz hk)) Dp.const ?_|refine Dc ?_)
 refine DQ.anil (k:=?_);intro sx _
 repeat (first|refine Tk ?_|intro _|exact Tz)
 refine WC.adraw 18 (k:=?_)
 iterate 18 (first|refine Da ?_|refine DQ.does (fun s _=>zt rfl rfl heq) Dp.const ?_|refine DQ.acall (hc:=hIn) (k:=?_)|refine DQ.does (fun s _=>zr rfl rfl hsub) Dp.const ?_|refine DQ.does (fun s _=>zb (i:=n - 1) (o':=oY+(n - 1)*4) rfl rfl hly rfl) Dp.const ?_|refine DQ.does (fun s _=>zk (vs:=zc y) (hs:=hY) (hle:=Nat.le_add_right _ _) (hc:=hcy)) Dp.const ?_|refine Dc ?_)
 refine DQ.anil (k:=?_);intro sx _
 repeat (first|refine Tj ?_|intro _|refine WO.does (zr rfl rfl hsub) ?_|refine WO.does (zb (i:=n - 1) (o':=oY+(n - 1)*4) rfl rfl hly rfl) ?_|refine WO.does (zk (vs:=zc y) (hs:=hY) (hle:=Nat.le_add_right _ _) (hc:=hcy)) ?_|refine WO.acall (hc:=hInv) (k:=?_)|refine WO.does (zt rfl rfl rfl) ?_|refine WO.acall (hc:=hE) (k:=?_)|refine Tc ?_|exact Tz)
 refine WC.adraw 15 (k:=?_)
 iterate 2 (refine DQ.auto (k:=?_))
 refine DQ.acallS (hc:=hP0) (hR:=fun _=>Rd.nil) (k:=?_)
 iterate 3 (refine DQ.auto (k:=?_))
 refine DQ.makes (vf:=fun _ g=>AX g 2 2) (t:=5) (cs:=fun _=>[.int .u8 (d:Int),.int .u8 (n:Int)]) (fun s _=>zi rfl Dt rfl) Dp.const Dp.const ?_
 refine DQ.newsE (vf:=fun _ x=>AX (x 0) 10 (x 1)) (Nf:=fun _ x=>[⟨x 0,5,byC (be 8 ep)++[.int .u8 (d:Int),.int .u8 (n:Int)]++mkz (x 1 - 10) [.int .u8 0]⟩]) (S:=fun _ x=>10≤x 1∧x 1<9223372036854775808)
  (fun s=>[⟨s 6 0,5,[.int .u8 (d:Int),.int .u8 (n:Int)]⟩,⟨s 2 0,5,byC (be 8 ep)⟩]) (fun s=>.cons 6 (.head _) Dkk (.cons 2 Mh.a Dkk .nil)) (fun _=>⟨fun _=>10,by decide,by decide⟩)
  (fun s _=>u7 (z:=[Value.int .u8 0]) (len:=8) (n:=2) rfl rfl (ys:=byC (be 8 ep)) (Rds.own (m:=8) (Hs.there Hs.here) (ye (by rw[zh,zm]))) (by rw[zh,zm];rfl) (xs:=[.int .u8 (d:Int),.int .u8 (n:Int)]) (Rds.own (m:=2) Hs.here rfl) rfl Dt Dt Dt Dt rfl) Dp.const Dp.const Dp.const ?_
 try dsimp only[List.map_cons,List.map_nil,List.cons_append,List.nil_append]
 refine DQ.auto (k:=?_);refine DQ.acallS (hc:=hPy) (hR:=fun _=>Rd.nil) (k:=?_);refine DQ.auto (k:=?_);refine DQ.acallS (hc:=hPz) (hR:=fun _=>Rd.nil) (k:=?_);refine DQ.makes (vf:=fun _ g=>AX g 3 3) (t:=126) (cs:=fun s=>[AX (s 7 0) 10 (s 7 1),AX (s 9 0) 32 32,AX (s 11 0) 32 32]) (fun s _=>zi rfl Dt rfl) Dp.const (by intro s s' h;dsimp only;rw[h,h,h]<;>decide +kernel) ?_
 refine DQ.callE (v:=fun _=>.agg (byC H).toArray) (fun s=>[⟨s 12 0,126,[AX (s 7 0) 10 (s 7 1),AX (s 9 0) 32 32,AX (s 11 0) 32 32]⟩,⟨s 11 0,5,byC (be 32 z)⟩,⟨s 9 0,5,byC (be 32 y)⟩,⟨s 7 0,5,byC (be 8 ep)++[.int .u8 (d:Int),.int .u8 (n:Int)]++mkz (s 7 1 - 10) [.int .u8 0]⟩])
  (fun s=>.cons 12 (.head _) Dkk (.cons 11 Mh.a Dkk (.cons 9 Mh.a Dkk (.cons 7 Mh.a Dkk .nil)))) (fun s _=>hO (s 7 0) (s 7 1) (s 9 0) (s 11 0) (s 12 0)) (fun s=>rfl)
  (fun s hC w hm=>⟨Hs.seg Hs.here hm,z7.cons (by
    have hab:=RdP.own (g:=s 7 0) (c:=s 7 1) (X:=abL ep d n) (r:=mkz (s 7 1 - 10) [Value.int .u8 0]) (t:=5) hm (by rw[← lx hd hn];exact Hs.there (Hs.there (Hs.there Hs.here))) (by rw[vL];exact hC.1.1.2.1) hC.1.1.2.2;rw[vL] at hab;exact hab) (z7.cons (by have:=RdP.own0 (g:=s 9 0) (c:=32) (X:=be 32 y) (t:=5) hm (Hs.there (Hs.there Hs.here)) (by rw[zm];decide) Dt;rw[zm] at this;exact this) (z7.cons (by have:=RdP.own0 (g:=s 11 0) (c:=32) (X:=be 32 z) (t:=5) hm (Hs.there Hs.here) (by rw[zm];decide) Dt;rw[zm] at this;exact this) z7.nil))⟩) Dp.const ?_
 refine DQ.autoM (k:=?_);refine DQ.anil (k:=?_);intro sx _;refine WO.stores (zz (vs:=byC H) (cs':=byC H) (hl:=hHlen) (h1:=yB _) (hc:=yO (by rw[hHlen];rfl)) (hle:=by rw[hHlen];rfl)) ?_;generalize sx 14 0=gH
 repeat (first|refine Tk ?_|intro _|exact Tz)
 refine WC.adrawF [12] 14 (k:=?_)
 repeat (first|refine Da ?_|refine DQ.does (fun s _=>zE (vs:=byC H) (hc:=ye (by rw[hHlen])) (hl:=hHlen)) Dp.const ?_|refine DQ.acall (hc:=hDr) (k:=?_)|refine DQ.acall (hc:=hPr) (k:=?_)|refine Df ?_)
 refine DQ.anil (k:=?_);intro sx _;generalize sx 13 0=gP
 repeat (first|refine Tk ?_|intro _|exact Tz)
 done
theorem adu (pV pP:Value) (hp:p<zd) (hq:q<zd) (hg:g<zd) (hh:h<zd) (hN:zV N) (hNl:N.length≤100)
  (hf1 : -9223372036854775808≤f) (hf2:f≤9223372036854775807) (hs1 : -9223372036854775808≤sec) (hs2:sec≤9223372036854775807) (hn:n<256) (hx:x<zd) (hYb:∀ y∈Y,y<zd) (hep:ep<18446744073709551616) (hd:d<256) :
  Fn Tryz.prog 37 [stV p q g h f sec (.slice pt N.length c),dlV ep d pV (.slice pY Y.length cY) pP sC sS,.int .u8 (n:Int),zj x] (fun w=>RdK (.slice pt N.length c) N w∧RdF zc (.slice pY Y.length cY) Y w) (Is (opR p q g h f sec N ep d n x Y)):=by
 unfold opR;cases hA:opA p q g h f sec N n x with
 | false=>exact abc p q g h f sec pt c N ep d n x pY cY Y sC sS pV pP hp hq hg hh hN hNl hf1 hf2 hs1 hs2 hn hx hA
 | true =>
 rw[if_pos rfl];cases hF:opF p q N Y n with
 | false=>exact abt p q g h f sec pt c N ep d n x pY cY Y sC sS pV pP hp hq hg hh hN hNl hf1 hf2 hs1 hs2 hn hx hYb hA hF
 | true =>
 rw[if_pos rfl]
 by_cases hI:qk x q=0
 ·rw[if_pos hI];exact aaV p q g h f sec pt c N ep d n x pY cY Y sC sS pV pP hp hq hg hh hN hNl hf1 hf2 hs1 hs2 hn hx hYb hep hd hA hF hI
 ·rw[if_neg hI];exact aa9 p q g h f sec pt c N ep d n x pY cY Y sC sS pV pP hp hq hg hh hN hNl hf1 hf2 hs1 hs2 hn hx hYb hA hF hI
end
section
variable (p q g h:Nat) (f sec:Int) (pt:Option Addr) (c:Nat) (N:LP) (ep d:Nat) (pY:Option Addr) (cY:Nat) (Y:LN) (sC sS oe od n z oc os:Nat)
theorem aa4 (pV pP:Value) (hp:p<zd) (hq:q<zd) (hg:g<zd) (hh:h<zd) (hN:zV N) (hNl:N.length≤100)
  (hf1 : -9223372036854775808≤f) (hf2:f≤9223372036854775807) (hs1 : -9223372036854775808≤sec) (hs2:sec≤9223372036854775807) (hep:ep<18446744073709551616) (hd:d<256) (hYb:∀ y∈Y,y<zd)
  (hoe:oe<18446744073709551616) (hod:od<256) (hn:n<256) (hz:z<zd) (hoc:oc<zd) (hos:os<zd) :
  Fn Tryz.prog 94 [stV p q g h f sec (.slice pt N.length c),dlV ep d pV (.slice pY Y.length cY) pP sC sS,opV oe od n z oc os] (fun w=>RdK (.slice pt N.length c) N w∧RdF zc (.slice pY Y.length cY) Y w) (Is (.bool (eB p q g h f sec N ep d Y oe od n z oc os))):=by
 have hS:=z8 p q g h f sec pt c N hp hq hg hh hN Om hf1 hf2 hs1 hs2;have hNd:=tY p q g h f sec pt c N n hn Om;unfold eB;have hO1:=aaJ oe od hod;have hO2:=aaJ ep d hd;cases e1:yW p q g h f sec N with
 | false =>
  rw[e1] at hS;clear hNd hN hNl hf1 hf2 hs1 hs2 hp hq hg hh hYb hz hoc hos;simp only[Bool.false_and];refine Fn.enter Tryz.func94 rfl rfl rfl ?_;intro w hw;obtain⟨hwK,hwY⟩:=hw
  repeat (first|refine Tk ?_|intro _|exact Tz)
  refine WC.adraw 32 (k:=?_)
  iterate 32 (first|refine Da ?_|refine DQ.acallR (hc:=hS) (hR:=fun w hm=>hwK.mod hm.mod) (k:=?_)|refine Dc ?_)
  refine DQ.anil (k:=?_);intro sx _
  repeat (first|refine Tk ?_|intro _|exact Tz)
  done
 | true =>
 rw[e1] at hS;rw[Bool.true_and];cases e2:(decide (oe=ep) && decide (od=d)) with
 | false =>
  clear hNd hN hNl hf1 hf2 hs1 hs2 hp hq hg hh hYb hz hoc hos;simp only[Bool.false_and];have hPn:(!(decide (oe=ep) && decide (od=d)))=true:=by rw[e2];rfl
  refine Fn.enter Tryz.func94 rfl rfl rfl ?_;intro w hw;obtain⟨hwK,hwY⟩:=hw
  repeat (first|refine Tk ?_|intro _|exact Tz)
  refine WC.adraw 32 (k:=?_)
  iterate 32 (first|refine Da ?_|refine DQ.acallR (hc:=hS) (hR:=fun w hm=>hwK.mod hm.mod) (k:=?_)|refine DQ.acall (hc:=hO1) (k:=?_)|refine DQ.acall (hc:=hO2) (k:=?_)|refine DQ.does (fun s _=>vn rfl rfl hoe Om hep Om hPn) Dp.const ?_|refine Dc ?_)
  refine DQ.anil (k:=?_);intro sx _
  repeat (first|refine Tk ?_|intro _|exact Tz)
  done
 | true =>
 rw[Bool.true_and];have hPn:(!(decide (oe=ep) && decide (od=d)))=false:=by rw[e2];rfl
 cases e4:ut n N with
 | false =>
  rw[e4] at hNd;clear hN hNl hf1 hf2 hs1 hs2 hp hq hg hh hYb hz hoc hos;simp only[Bool.false_and];refine Fn.enter Tryz.func94 rfl rfl rfl ?_;intro w hw;obtain⟨hwK,hwY⟩:=hw
  repeat (first|refine Tk ?_|intro _|exact Tz)
  refine WC.adraw 32 (k:=?_)
  iterate 32 (first|refine Da ?_|refine DQ.acallR (hc:=hS) (hR:=fun w hm=>hwK.mod hm.mod) (k:=?_)|refine DQ.acall (hc:=hO1) (k:=?_)|refine DQ.acall (hc:=hO2) (k:=?_)|refine DQ.does (fun s _=>vn rfl rfl hoe Om hep Om hPn) Dp.const ?_|refine DQ.acall (hc:=hNd) (k:=?_)|refine Dc ?_)
  refine DQ.anil (k:=?_);intro sx _
  repeat (first|refine Tk ?_|intro _|exact Tz)
  done
 | true =>
 rw[e4] at hNd;rw[Bool.true_and]
 by_cases hYl:Y.length=N.length
 rotate_left
 ·have hne:(Y.length:Int)≠(N.length:Int):=by omega
  clear hN hNl hf1 hf2 hs1 hs2 hp hq hg hh hYb hz hoc hos;rw[decide_eq_false hYl,Bool.false_and];refine Fn.enter Tryz.func94 rfl rfl rfl ?_;intro w hw;obtain⟨hwK,hwY⟩:=hw
  repeat (first|refine Tk ?_|intro _|exact Tz)
  refine WC.adraw 32 (k:=?_)
  iterate 32 (first|refine Da ?_|refine DQ.acallR (hc:=hS) (hR:=fun w hm=>hwK.mod hm.mod) (k:=?_)|refine DQ.acall (hc:=hO1) (k:=?_)|refine DQ.acall (hc:=hO2) (k:=?_)|refine DQ.does (fun s _=>vn rfl rfl hoe Om hep Om hPn) Dp.const ?_|refine DQ.acall (hc:=hNd) (k:=?_)|refine DQ.does (fun s _=>zZ rfl rfl hne) Dp.const ?_|refine Dc ?_)
  refine DQ.anil (k:=?_);intro sx _
  repeat (first|refine Tk ?_|intro _|exact Tz)
  done
 have heq:(Y.length:Int)=(N.length:Int):=by omega
 rw[decide_eq_true hYl,Bool.true_and];obtain⟨hn1,hn2⟩:=yr e4;obtain⟨k,hk,hsk⟩:=r8 hn1 hn2;have hkb:=(hN k (List.mem_of_getElem? hk)).2;have hsub:IntKind.u8.wrap ((n:Int) - 1)=((n - 1:Nat):Int):=ua Om Om Om;have hlt:n - 1<N.length:=by omega
 have hly:n - 1<Y.length:=by omega
 obtain⟨y,hy⟩ : ∃ y,Y[n - 1]?=some y:=⟨_,List.getElem?_eq_getElem hly⟩;have hgy:Y.getD (n - 1) 0=y:=by simp[List.getD,hy]
 have hyb:=hYb y (List.mem_of_getElem? hy);rw[hgy,hsk];have hCk:=bz p q g h tx h k.2 z y oc os hp hq hh hkb hz hyb hoc hos Dt;generalize ckB p q (zY tx) h k.2 z y oc os=R at *;clear hN hNl hf1 hf2 hs1 hs2 hp hq hg hh hYb hz hoc hos hkb hyb e1;refine Fn.enter Tryz.func94 rfl rfl rfl ?_;intro w hw;obtain⟨hwK,hwY⟩:=hw;obtain⟨pt',c',e,hpc⟩:=id hwK;cases e
 rcases hpc with ⟨_,h0⟩|⟨b,o,rfl,hs⟩
 ·rw[h0] at hlt;simp at hlt
 obtain⟨pt2,c2,e,hpy⟩:=hwY;cases e
 rcases hpy with ⟨_,h0⟩|⟨bY,oY,rfl,hY⟩
 ·rw[h0] at hly;simp at hly
 have hcy:cut (Y.flatMap zc) (oY+(n - 1)*4 - oY) 4=zc y:=by rw[Nat.add_sub_cancel_left];exact zB zL hy
 repeat (first|refine Tk ?_|intro _|exact Tz)
 refine WC.adraw 32 (k:=?_)
 iterate 32 (first|refine Da ?_|refine DQ.acallR (hc:=hS) (hR:=fun w hm=>hwK.mod hm.mod) (k:=?_)|refine DQ.acall (hc:=hO1) (k:=?_)|refine DQ.acall (hc:=hO2) (k:=?_)|refine DQ.does (fun s _=>vn rfl rfl hoe Om hep Om hPn) Dp.const ?_|refine DQ.acall (hc:=hNd) (k:=?_)|refine DQ.does (fun s _=>zt rfl rfl heq) Dp.const ?_|refine Dc ?_)
 refine DQ.anil (k:=?_);intro sx _
 repeat (first|refine Tk ?_|intro _|exact Tz)
 refine WC.adraw 26 (k:=?_)
 iterate 26 (first|refine Da ?_|refine DQ.acall (hc:=hCk) (k:=?_)|refine DQ.does (fun s _=>zr rfl rfl hsub) Dp.const ?_|refine DQ.does (fun s _=>zb (i:=n - 1) (o':=o+(n - 1)*8) rfl rfl hlt rfl) Dp.const ?_|refine DQ.does (fun s _=>zk (vs:=zc k.2) (hs:=hs) (hle:=by omega) (hc:=uz hk)) Dp.const ?_|refine DQ.does (fun s _=>zb (i:=n - 1) (o':=oY+(n - 1)*4) rfl rfl hly rfl) Dp.const ?_|refine DQ.does (fun s _=>zk (vs:=zc y) (hs:=hY) (hle:=Nat.le_add_right _ _) (hc:=hcy)) Dp.const ?_|refine Dc ?_)
 refine DQ.anil (k:=?_);intro sx _
 repeat (first|refine Tk ?_|intro _|exact Tz)
 done
end
end Sx
end
end Go.Proofs.YtiaibpcaloigkaaGreatDoor
