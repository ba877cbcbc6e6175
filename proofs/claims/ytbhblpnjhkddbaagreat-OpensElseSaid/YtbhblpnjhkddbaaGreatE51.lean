/- Part 51 of the proof. -/
import Derived.Test.YtbhblpnjhkddbaaGreatE50
import Derived.Test.YtbhblpnjhkddbaaGreatRows
import Derived.ProofKit
import Derived.ChangeArms
import Derived.OpenShut
import Derived.DataReads
import Derived.WideShapes
set_option linter.unusedSimpArgs false
set_option linter.unusedVariables false
namespace Go.Proofs.YtbhblpnjhkddbaaGreat
section
open Go Go.RowKit Go.BigFrame
namespace Sx
attribute [local irreducible] DQ DQS WC WO WX wd
theorem jR {p q g h:Nat} {f sec:Int} {N:List (Nat × Nat)} {l X:List Nat} {d x:Nat} (hB:sF p q g h f sec N l d x X=true):∃ F m:Nat,f=(F:Int)∧sec=(m:Int)∧F≤2∧m≤3:=by
 obtain⟨eF,_,_,_⟩:=u9 hB;obtain⟨_,hS,_,_,_,_⟩:=uz eF;obtain⟨_,_,_,hf0,hsec1,hfs,_,_⟩:=yo hS;unfold vl at hS;simp only[Bool.and_eq_true,decide_eq_true_eq] at hS;exact⟨f.toNat,sec.toNat,by omega,by omega,by omega,by omega⟩
end Sx
end
section
open Go Go.RowKit Go.BigFrame Go.WideShapes
namespace Sx
theorem yO (cs:List Value) (a b c:Nat):cut cs a b++cut cs (a+b) c=cut cs a (b+c):=by
 unfold cut;rw[List.take_add,List.drop_drop]
section
variable {H:Type} {enc:TypeId × Value→H} {P:Program} {w:World} {base:Nat} {spare:Nat→Bool} {held:Bool} {fuel:Nat} {cs:List Value} {x:DataW H × List MemPlace}
theorem tH {t:TypeId} {fs:Array Field} {m:Nat} (ht:P.underlying t=some (.struct fs)) (hm:P.cellsOf t=m) (h:DataW.trod enc P w base spare held fuel t cs=some x):cs.length=m:=by
 obtain⟨xs,n,_,_,hl,_⟩:=DataW.trod_struct ht h;rw[hl,hm]
theorem yk {t:TypeId} {fs:Array Field} (ht:P.underlying t=some (.struct fs)) (h:DataW.trod enc P w base spare held fuel t cs=some x) {i off ty sz:Nat} {f:Field} (hf:fs[i]?=some f) (ho:f.offset=off) (hty:f.type=ty) (hs:P.cellsOf ty=sz) :
  ∃ n y,DataW.trod enc P w base spare held n ty (cut cs off sz)=some y:=by
 obtain⟨xs,n,_,_,_,hlen,hp⟩:=DataW.trod_struct ht h;have h1:=hp i f hf;subst ho hty hs;have hi:i<xs.length:=by
  rw[hlen]
  rcases Nat.lt_or_ge i fs.size with h2|h2
  ·exact h2
  ·rw[Array.getElem?_eq_none h2] at hf;cases hf
 rw[List.getElem?_eq_getElem hi] at h1;exact⟨n,_,h1⟩
theorem uw {t:TypeId} (ht:P.underlying t=some (.int .u64)) (h:DataW.trod enc P w base spare held fuel t cs=some x):∃ n:Nat,n<18446744073709551616∧cs=[.int .u64 (n:Int)]:=by
 obtain⟨n,rfl,_,hw⟩:=DataW.trod_int ht h;simp only[Lit.wf,IntKind.min,IntKind.max,IntKind.signed,IntKind.bits,Bool.and_eq_true,decide_eq_true_eq] at hw;have h1:(0:Int)≤n:=by simpa using hw.1
 have h2:n≤18446744073709551615:=by simpa using hw.2
 exact⟨n.toNat,by omega,by rw[Int.toNat_of_nonneg h1]⟩
theorem dk {t:TypeId} (ht:P.underlying t=some (.int .u8)) (h:DataW.trod enc P w base spare held fuel t cs=some x):∃ n:Nat,n<256∧cs=[.int .u8 (n:Int)]:=by
 obtain⟨n,rfl,_,hw⟩:=DataW.trod_int ht h;simp only[Lit.wf,IntKind.min,IntKind.max,IntKind.signed,IntKind.bits,Bool.and_eq_true,decide_eq_true_eq] at hw;have h1:(0:Int)≤n:=by simpa using hw.1
 have h2:n≤255:=by simpa using hw.2
 exact⟨n.toNat,by omega,by rw[Int.toNat_of_nonneg h1]⟩
theorem nn {t:TypeId} (ht:P.underlying t=some (.int .i64)) (h:DataW.trod enc P w base spare held fuel t cs=some x):∃ n:Int,-9223372036854775808≤n∧n≤9223372036854775807∧cs=[.int .i64 n]:=by
 obtain⟨n,rfl,_,hw⟩:=DataW.trod_int ht h;simp only[Lit.wf,IntKind.min,IntKind.max,IntKind.signed,IntKind.bits,Bool.and_eq_true,decide_eq_true_eq] at hw;exact⟨n,by simpa using hw.1,by simpa using hw.2,rfl⟩
theorem jW {t e:TypeId} (ht:P.underlying t=some (.array 4 e)) (he:P.underlying e=some (.int .u64)) (h4:P.cellsOf t=4) (h1:P.cellsOf e=1) (h:DataW.trod enc P w base spare held fuel t cs=some x):∃ n:Nat,n<zc∧cs=zb n:=by
 obtain⟨xs,m,_,_,hl,hlen,hp⟩:=DataW.trod_array ht h;rw[h4] at hl
 match cs,hl with
 | [c0,c1,c2,c3],_ =>
  have k:∀ (i:Nat),i<4→∃ y,DataW.trod enc P w base spare held m e (([c0,c1,c2,c3].drop (i*P.cellsOf e)).take (P.cellsOf e))=some y:=fun i hi=>by
   have h2:=hp i hi;rw[List.getElem?_eq_getElem (by omega)] at h2;exact⟨_,h2⟩
  rw[h1] at k;obtain⟨y0,k0⟩:=k 0 (by omega);obtain⟨y1,k1⟩:=k 1 (by omega);obtain⟨y2,k2⟩:=k 2 (by omega);obtain⟨y3,k3⟩:=k 3 (by omega);obtain⟨a0,b0,e0⟩:=uw he k0;obtain⟨a1,b1,e1⟩:=uw he k1;obtain⟨a2,b2,e2⟩:=uw he k2;obtain⟨a3,b3,e3⟩:=uw he k3;simp at e0 e1 e2 e3;subst e0 e1 e2 e3;obtain⟨w0,w1,w2,w3⟩:=fI b0 b1 b2 b3;exact⟨uU a0 a1 a2 a3,mp b0 b1 b2 b3,by rw[zb,w0,w1,w2,w3]⟩
theorem Seg.app {b o:Nat} {A B:List Value} (hA:Seg w b o A) (hB:Seg w b (o+A.length) B):Seg w b o (A++B):=by
 intro i v hv
 rcases Nat.lt_or_ge i A.length with h|h
 ·rw[List.getElem?_append_left h] at hv;exact hA i v hv
 ·rw[List.getElem?_append_right h] at hv;have:=hB _ v hv;rwa [show o+A.length+(i - A.length)=o+i by omega] at this
theorem seg_of_cells {b o n:Nat} {l:List Value} (h:w.cells? base ⟨b,o,none⟩ n=some l):Seg w b o l:=by
 obtain⟨_,hl,hc⟩:=World.cells?_some h;intro i v hv;have hi:i<n:=by
  rw[← hl]
  rcases Nat.lt_or_ge i l.length with h1|h1
  ·exact h1
  ·rw[List.getElem?_eq_none h1] at hv;cases hv
 have:=hc i hi;rw[vQ] at this;rw[this,hv]
theorem rz {α:Type} {f:α→List Value} {ok:α→Prop} {t e:TypeId} {k:Nat} (ht:P.underlying t=some (.slice e)) (hk:P.cellsOf e=k) (hf:∀ a,(f a).length=k)
  (hE:∀ (fuel:Nat) (cs:List Value) (x:DataW H × List MemPlace),DataW.trod enc P w base spare held fuel e cs=some x→∃ a,ok a∧cs=f a)
  (h:DataW.trod enc P w base spare held fuel t cs=some x) (hs:∀ a l c,cs=[.slice (some a) l c]→a.spot=none) :
  ∃ pt xs c,cs=[.slice pt xs.length c]∧(∀ a∈xs,ok a)∧RdF f (.slice pt xs.length c) xs w:=by
 rcases DataW.trod_slice ht h with ⟨rfl,_⟩|⟨a,len,cap,elems,rest,n,_,rfl,_,_,_,_,hlen,hel,_⟩
 ·exact⟨none,[],0,rfl,by simp,none,0,rfl,.inl ⟨rfl,rfl⟩⟩
 have ha:=hs a len cap rfl;obtain⟨b,o,sp⟩:=a;simp only at ha;subst ha;have key:∀ m,m≤len→∃ xs:List α,xs.length=m∧(∀ a∈xs,ok a)∧Seg w b o (xs.flatMap f):=by
  intro m
  induction m with
  | zero=>exact fun _=>⟨[],rfl,by simp,fun i v hv=>by simp at hv⟩
  | succ m ih =>
   intro hm;obtain⟨xs,h1,h2,h3⟩:=ih (by omega);have h4:=hel m (by omega);rw[List.getElem?_eq_getElem (by omega),hk,vQ] at h4;cases h5:w.cells? base ⟨b,o+m*k,none⟩ k with
   | none=>rw[h5] at h4;cases h4
   | some l =>
    rw[h5] at h4;obtain⟨y,hy,rfl⟩:=hE n l _ h4;refine⟨xs++[y],by simp[h1],fun a ha=>?_,?_⟩
    ·rcases List.mem_append.1 ha with ha|ha
     ·exact h2 a ha
     ·obtain rfl:=List.mem_singleton.1 ha;exact hy
    ·rw[List.flatMap_append];refine h3.app ?_;rw[zB hf,h1];simpa using seg_of_cells h5
 obtain⟨xs,rfl,h2,h3⟩:=key len (Nat.le_refl _);exact⟨some ⟨b,o,none⟩,xs,cap,rfl,h2,_,cap,rfl,.inr ⟨b,o,rfl,h3⟩⟩
theorem uW {r:Reach} {b0:Nat} {t u e:TypeId} {cs:Array Value} {ts:List TypeId} {fs:Array Field} {i:Nat} (ht:P.underlying t=some (.struct fs)) (hts:P.cellTypes P.depth t=some ts) (hn:ts.length=P.cellsOf t)
  (hv:Value.okWide P w r b0 t (.agg cs)) (hu:ts[i]?=some u) (hue:P.underlying u=some (.slice e)):∀ a l c,cs[i]?=some (.slice (some a) l c)→a.spot=none:=by
 intro a l c hc;unfold Value.okWide at hv;rw[ht] at hv;obtain⟨cs',h1,h2,ts',h3,_,h4⟩:=hv;cases h1;rw[hts] at h3;cases h3;obtain⟨u',h5,h6⟩:=h4 i _ hc;have hi:i<ts.length:=by
  rcases Nat.lt_or_ge i ts.length with h|h
  ·exact h
  ·rw[List.getElem?_eq_none h] at hu;cases hu
 rw[Nat.mod_eq_of_lt hi,hu] at h5;cases h5;unfold Cell.okWide Cell.ok at h6;rw[hue] at h6;exact h6.2.2.2.1
theorem jL {r:Reach} {b0:Nat} {t u e:TypeId} {cs:Array Value} {ts:List TypeId} {fs:Array Field} {i:Nat} (ht:P.underlying t=some (.struct fs)) (hts:P.cellTypes P.depth t=some ts) (hn:ts.length=P.cellsOf t)
  (hv:Value.okWide P w r b0 t (.agg cs)) (hu:ts[i]?=some u) (hue:P.underlying u=some (.slice e)) {p:Option Addr} {l c:Nat} (hc:cs[i]?=some (.slice p l c)):l≤c:=by
 unfold Value.okWide at hv;rw[ht] at hv;obtain⟨cs',h1,h2,ts',h3,_,h4⟩:=hv;cases h1;rw[hts] at h3;cases h3;obtain⟨u',h5,h6⟩:=h4 i _ hc;have hi:i<ts.length:=by
  rcases Nat.lt_or_ge i ts.length with h|h
  ·exact h
  ·rw[List.getElem?_eq_none h] at hu;cases hu
 rw[Nat.mod_eq_of_lt hi,hu] at h5;cases h5;unfold Cell.okWide Cell.ok at h6;rw[hue] at h6;cases p with
 | none=>cases l<;>cases c<;>simp_all
 | some a=>exact h6.1
theorem ec {r:Reach} {b0:Nat} {t:TypeId} {v:Value} (ht:P.underlying t=some (.int .u8)) (h:Value.okWide P w r b0 t v):∃ n:Nat,n<256∧v=.int .u8 (n:Int):=by
 obtain⟨n,rfl⟩:=okWide_int ht h;simp only[Value.okWide,ht,Cell.okWide,Cell.ok] at h;obtain⟨_,h1,h2⟩:=h;have e1:IntKind.u8.min=0:=rfl;have e2:IntKind.u8.max=255:=rfl;rw[e1] at h1;rw[e2] at h2;exact⟨n.toNat,by omega,by rw[Int.toNat_of_nonneg h1]⟩
end
section
variable {H:Type} {enc:TypeId × Value→H} {w:World} {base:Nat} {spare:Nat→Bool} {held:Bool} {fuel:Nat} {cs:List Value} {x:DataW H × List MemPlace}
theorem abP:Tryz.prog.cellsOf 22=1:=by kernel_rfl
theorem acX:Tryz.prog.cellsOf 5=1:=by kernel_rfl
theorem abx:Tryz.prog.cellsOf 3=1:=by kernel_rfl
theorem qb:Tryz.prog.cellsOf 24=4:=by kernel_rfl
theorem iA:Tryz.prog.cellsOf 26=16:=by kernel_rfl
theorem abf:Tryz.prog.cellsOf 72=8:=by kernel_rfl
theorem abk:Tryz.prog.cellsOf 27=1:=by kernel_rfl
theorem bD:Tryz.prog.cellsOf 30=1:=by kernel_rfl
theorem rA:Tryz.prog.cellsOf 29=19:=by kernel_rfl
theorem pM (h:DataW.trod enc Tryz.prog w base spare held fuel 24 cs=some x):∃ n:Nat,n<zc∧cs=zb n:=jW Tryz.underlying24 Tryz.underlying22 qb abP h
theorem acz (h:DataW.trod enc Tryz.prog w base spare held fuel 72 cs=some x):∃ k:Nat × Nat,(k.1<zc∧k.2<zc)∧cs=y7 k:=by
 have hl:=tH Tryz.underlying72 abf h;obtain⟨_,_,h0⟩:=yk Tryz.underlying72 h (i:=0) (off:=0) (ty:=24) rfl rfl rfl qb;obtain⟨_,_,h1⟩:=yk Tryz.underlying72 h (i:=1) (off:=4) (ty:=24) rfl rfl rfl qb;obtain⟨a,ha,e0⟩:=pM h0;obtain⟨b,hb,e1⟩:=pM h1;refine⟨(a,b),⟨ha,hb⟩,?_⟩;rw[← yw hl,← yO cs 0 4 4,e0,e1];rfl
theorem aaC (h:DataW.trod enc Tryz.prog w base spare held fuel 26 cs=some x):∃ p q g u,p<zc∧q<zc∧g<zc∧u<zc∧cs=vg p q g u:=by
 have hl:=tH Tryz.underlying26 iA h;obtain⟨_,_,h0⟩:=yk Tryz.underlying26 h (i:=0) (off:=0) (ty:=24) rfl rfl rfl qb;obtain⟨_,_,h1⟩:=yk Tryz.underlying26 h (i:=1) (off:=4) (ty:=24) rfl rfl rfl qb;obtain⟨_,_,h2⟩:=yk Tryz.underlying26 h (i:=2) (off:=8) (ty:=24) rfl rfl rfl qb;obtain⟨_,_,h3⟩:=yk Tryz.underlying26 h (i:=3) (off:=12) (ty:=24) rfl rfl rfl qb;obtain⟨a,ha,e0⟩:=pM h0;obtain⟨b,hb,e1⟩:=pM h1;obtain⟨c,hc,e2⟩:=pM h2;obtain⟨d,hd,e3⟩:=pM h3;refine⟨a,b,c,d,ha,hb,hc,hd,?_⟩;rw[← yw hl,← yO cs 0 4 12,← yO cs (0+4) 4 8,← yO cs (0+4+4) 4 4,e0,e1,e2,e3];rfl
theorem mx {i:Nat} {v:Value} (h:cut cs i 1=[v]):cs[i]?=some v:=by
 have:=u6 (j:=0) (v:=v) h rfl;rwa [Nat.add_zero] at this
theorem fj (h:DataW.trod enc Tryz.prog w base spare held fuel 29 cs=some x) (hs:∀ a l c,cs[18]?=some (.slice (some a) l c)→a.spot=none) :
  ∃ p q g u f sec pt N c,p<zc∧q<zc∧g<zc∧u<zc∧(-9223372036854775808≤f∧f≤9223372036854775807∧-9223372036854775808≤sec∧sec≤9223372036854775807)∧yC N∧cs=stC p q g u f sec (.slice pt N.length c)∧RdF y7 (.slice pt N.length c) N w:=by
 have hl:=tH Tryz.underlying29 rA h;obtain⟨_,_,h0⟩:=yk Tryz.underlying29 h (i:=0) (off:=0) (ty:=26) rfl rfl rfl iA;obtain⟨_,_,h1⟩:=yk Tryz.underlying29 h (i:=1) (off:=16) (ty:=3) rfl rfl rfl abx;obtain⟨_,_,h2⟩:=yk Tryz.underlying29 h (i:=2) (off:=17) (ty:=3) rfl rfl rfl abx;obtain⟨_,_,h3⟩:=yk Tryz.underlying29 h (i:=3) (off:=18) (ty:=27) rfl rfl rfl abk;obtain⟨p,q,g,u,hp,hq,hg,hu,e0⟩:=aaC h0;obtain⟨f,hf1,hf2,e1⟩:=nn Tryz.underlying3 h1;obtain⟨sec,hs1,hs2,e2⟩:=nn Tryz.underlying3 h2;obtain⟨pt,N,c,e3,hN,hR⟩:=rz (f:=y7) (ok:=fun k=>k.1<zc∧k.2<zc) Tryz.underlying27 abf uG (fun _ _ _ h=>acz h) h3 (fun a l c e=>hs a l c (mx e));refine⟨p,q,g,u,f,sec,pt,N,c,hp,hq,hg,hu,⟨hf1,hf2,hs1,hs2⟩,hN,?_,hR⟩;rw[← yw hl,← yO cs 0 16 3,← yO cs (0+16) 1 2,← yO cs (0+16+1) 1 1,e0,e1,e2,e3];rfl
theorem nZ:Tryz.prog.cellsOf 32=8:=by kernel_rfl
theorem aaO (h:DataW.trod enc Tryz.prog w base spare held fuel 32 cs=some x) (hs:∀ i,i=2∨i=7→∀ a l c,cs[i]?=some (.slice (some a) l c)→a.spot=none) :
  ∃ ep d pl l cl u px X cx,ep<18446744073709551616∧d<256∧(∀ y∈l,y<zc)∧u<zc∧(∀ y∈X,y<zc)∧cs=dtC ep d (.slice pl (List.length l) cl) u (.slice px (List.length X) cx)∧RdF zb (.slice pl l.length cl) l w∧RdF zb (.slice px X.length cx) X w:=by
 have hl:=tH Tryz.underlying32 nZ h;obtain⟨_,_,h0⟩:=yk Tryz.underlying32 h (i:=0) (off:=0) (ty:=22) rfl rfl rfl abP;obtain⟨_,_,h1⟩:=yk Tryz.underlying32 h (i:=1) (off:=1) (ty:=5) rfl rfl rfl acX;obtain⟨_,_,h2⟩:=yk Tryz.underlying32 h (i:=2) (off:=2) (ty:=30) rfl rfl rfl bD;obtain⟨_,_,h3⟩:=yk Tryz.underlying32 h (i:=3) (off:=3) (ty:=24) rfl rfl rfl qb;obtain⟨_,_,h4⟩:=yk Tryz.underlying32 h (i:=4) (off:=7) (ty:=30) rfl rfl rfl bD;obtain⟨ep,hep,e0⟩:=uw Tryz.underlying22 h0;obtain⟨d,hd,e1⟩:=dk Tryz.underlying5 h1;obtain⟨pl,l,cl,e2,hlb,hL⟩:=rz (f:=zb) (ok:=fun y=>y<zc) Tryz.underlying30 qb zH (fun _ _ _ h=>pM h) h2 (fun a l c e=>hs 2 (.inl rfl) a l c (mx e));obtain⟨u,hu,e3⟩:=pM h3;obtain⟨px,X,cx,e4,hXb,hX⟩:=rz (f:=zb) (ok:=fun y=>y<zc) Tryz.underlying30 qb zH (fun _ _ _ h=>pM h) h4 (fun a l c e=>hs 7 (.inr rfl) a l c (mx e));refine⟨ep,d,pl,l,cl,u,px,X,cx,hep,hd,hlb,hu,hXb,?_,hL,hX⟩;rw[← yw hl,← yO cs 0 1 7,← yO cs (0+1) 1 6,← yO cs (0+1+1) 1 5,← yO cs (0+1+1+1) 4 1,e0,e1,e2,e3,e4];rfl
end
end Sx
end
end Go.Proofs.YtbhblpnjhkddbaaGreat
namespace Go.Proofs.YtbhblpnjhkddbaaGreat.Ou
section
open Go Go.RowKit Go.BigFrame Go.ChangeShapes Go.WideShapes Go.ChangeAt Sx
theorem own:ownKnob Tryz.prog.godebug=none:=by kernel_rfl
theorem tz:Tryz.prog.cellTypes Tryz.prog.depth 29=some (List.replicate 16 22++[3,3,27]):=by kernel_rfl
theorem acx:laidOutB Tryz.prog=true:=by kernel_rfl
theorem mF:Tryz.prog.readableRec 29=true:=by kernel_rfl
theorem io:Tryz.prog.readableRec 32=true:=by kernel_rfl
theorem rI:Tryz.prog.cellTypes Tryz.prog.depth 32=some ([22,5,30]++List.replicate 4 22++[30]):=by kernel_rfl
theorem ab8:Tryz.prog.readableRec 5=true:=by kernel_rfl
end
end Go.Proofs.YtbhblpnjhkddbaaGreat.Ou
