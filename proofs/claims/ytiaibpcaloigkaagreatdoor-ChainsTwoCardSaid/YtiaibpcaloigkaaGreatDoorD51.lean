/- Part 51 of the proof. -/
import Derived.Test.YtiaibpcaloigkaaGreatDoorD47
import Derived.Test.YtiaibpcaloigkaaGreatDoorCards
import Derived.Test.YtiaibpcaloigkaaGreatDoorTie
import Derived.ProofKit
import Derived.LaidMore
import Derived.Stop.Joined
import Derived.SevenTiedAt
import Derived.ChangeArms
import Derived.OpenShut
import Derived.DataReads
import Derived.WideShapes
set_option linter.unusedSimpArgs false
set_option linter.unusedVariables false
set_option maxHeartbeats 8000000
namespace Go.Proofs.YtiaibpcaloigkaaGreatDoor
section
open Go Go.RowKit Go.BigFrame Go.WideShapes
namespace Sx
theorem yR (cs:LV) (a b c:Nat):cut cs a b++cut cs (a+b) c=cut cs a (b+c):=by
 unfold cut;rw[List.take_add,List.drop_drop]
section
variable {H:Type} {enc:TypeId × Value→H} {P:Program} {w:World} {base:Nat} {spare:Nat→Bool} {held:Bool} {fuel:Nat} {cs:LV} {x:DataW H × List MemPlace}
theorem tg {t:TypeId} {fs:Array Field} {m:Nat} (ht:P.underlying t=some (.struct fs)) (hm:P.cellsOf t=m) (h:DataW.trod enc P w base spare held fuel t cs=some x):cs.length=m:=by
 obtain⟨xs,n,_,_,hl,_⟩:=DataW.trod_struct ht h;rw[hl,hm]
theorem yo {t:TypeId} {fs:Array Field} (ht:P.underlying t=some (.struct fs)) (h:DataW.trod enc P w base spare held fuel t cs=some x) {i off ty sz:Nat} {f:Field} (hf:fs[i]?=some f) (ho:f.offset=off) (hty:f.type=ty) (hs:P.cellsOf ty=sz) :
  ∃ n y,DataW.trod enc P w base spare held n ty (cut cs off sz)=some y:=by
 obtain⟨xs,n,_,_,_,hlen,hp⟩:=DataW.trod_struct ht h;have h1:=hp i f hf;subst ho hty hs;have hi:i<xs.length:=by
  rw[hlen]
  rcases Nat.lt_or_ge i fs.size with h2|h2
  ·exact h2
  ·rw[Array.getElem?_eq_none h2] at hf;cases hf
 rw[List.getElem?_eq_getElem hi] at h1;exact⟨n,_,h1⟩
theorem tk {t:TypeId} (ht:P.underlying t=some (.int .u64)) (h:DataW.trod enc P w base spare held fuel t cs=some x):∃ n:Nat,n<18446744073709551616∧cs=[.int .u64 (n:Int)]:=by
 obtain⟨n,rfl,_,hw⟩:=DataW.trod_int ht h;simp only[Lit.wf,IntKind.min,IntKind.max,IntKind.signed,IntKind.bits,Bool.and_eq_true,decide_eq_true_eq] at hw;have h1:(0:Int)≤n:=by simpa using hw.1
 have h2:n≤18446744073709551615:=by simpa using hw.2
 exact⟨n.toNat,by omega,by rw[Int.toNat_of_nonneg h1]⟩
theorem mj {t:TypeId} (ht:P.underlying t=some (.int .i64)) (h:DataW.trod enc P w base spare held fuel t cs=some x):∃ n:Int,-9223372036854775808≤n∧n≤9223372036854775807∧cs=[.int .i64 n]:=by
 obtain⟨n,rfl,_,hw⟩:=DataW.trod_int ht h;simp only[Lit.wf,IntKind.min,IntKind.max,IntKind.signed,IntKind.bits,Bool.and_eq_true,decide_eq_true_eq] at hw;exact⟨n,by simpa using hw.1,by simpa using hw.2,rfl⟩
theorem dE {t e:TypeId} (ht:P.underlying t=some (.array 4 e)) (he:P.underlying e=some (.int .u64)) (h4:P.cellsOf t=4) (h1:P.cellsOf e=1) (h:DataW.trod enc P w base spare held fuel t cs=some x):∃ n:Nat,n<ze∧cs=zc n:=by
 obtain⟨xs,m,_,_,hl,hlen,hp⟩:=DataW.trod_array ht h;rw[h4] at hl
 match cs,hl with
 | [c0,c1,c2,c3],_ =>
  have k:∀ (i:Nat),i<4→∃ y,DataW.trod enc P w base spare held m e (([c0,c1,c2,c3].drop (i*P.cellsOf e)).take (P.cellsOf e))=some y:=fun i hi=>by
   have h2:=hp i hi;rw[List.getElem?_eq_getElem Om] at h2;exact⟨_,h2⟩
  rw[h1] at k;obtain⟨y0,k0⟩:=k 0 Om;obtain⟨y1,k1⟩:=k 1 Om;obtain⟨y2,k2⟩:=k 2 Om;obtain⟨y3,k3⟩:=k 3 Om;obtain⟨a0,b0,e0⟩:=tk he k0;obtain⟨a1,b1,e1⟩:=tk he k1;obtain⟨a2,b2,e2⟩:=tk he k2;obtain⟨a3,b3,e3⟩:=tk he k3;simp at e0 e1 e2 e3;subst e0 e1 e2 e3;obtain⟨w0,w1,w2,w3⟩:=mX b0 b1 b2 b3;exact⟨uW a0 a1 a2 a3,mS b0 b1 b2 b3,by rw[zc,w0,w1,w2,w3]⟩
theorem Seg.app {b o:Nat} {A B:LV} (hA:Seg w b o A) (hB:Seg w b (o+A.length) B):Seg w b o (A++B):=by
 intro i v hv
 rcases Nat.lt_or_ge i A.length with h|h
 ·rw[List.getElem?_append_left h] at hv;exact hA i v hv
 ·rw[List.getElem?_append_right h] at hv;have:=hB _ v hv;rwa [show o+A.length+(i - A.length)=o+i by omega] at this
theorem seg_of_cells {b o n:Nat} {l:LV} (h:w.cells? base ⟨b,o,none⟩ n=some l):Seg w b o l:=by
 obtain⟨_,hl,hc⟩:=World.cells?_some h;intro i v hv;have hi:i<n:=by
  rw[← hl]
  rcases Nat.lt_or_ge i l.length with h1|h1
  ·exact h1
  ·rw[List.getElem?_eq_none h1] at hv;cases hv
 have:=hc i hi;rw[vB] at this;rw[this,hv]
theorem dq {α:Type} {f:α→List Value} {ok:α→Prop} {t e:TypeId} {k:Nat} (ht:P.underlying t=some (.slice e)) (hk:P.cellsOf e=k) (hf:∀ a,(f a).length=k)
  (hE:∀ (fuel:Nat) (cs:LV) (x:DataW H × List MemPlace),DataW.trod enc P w base spare held fuel e cs=some x→∃ a,ok a∧cs=f a)
  (h:DataW.trod enc P w base spare held fuel t cs=some x) (hs:∀ a l c,cs=[.slice (some a) l c]→a.spot=none) :
  ∃ pt xs c,cs=[.slice pt xs.length c]∧(∀ a∈xs,ok a)∧RdF f (.slice pt xs.length c) xs w:=by
 rcases DataW.trod_slice ht h with ⟨rfl,_⟩|⟨a,len,cap,elems,rest,n,_,rfl,_,_,_,_,hlen,hel,_⟩
 ·exact⟨none,[],0,rfl,by simp,none,0,rfl,.inl ⟨rfl,rfl⟩⟩
 have ha:=hs a len cap rfl;obtain⟨b,o,sp⟩:=a;simp only at ha;subst ha;have key:∀ m,m≤len→∃ xs:List α,xs.length=m∧(∀ a∈xs,ok a)∧Seg w b o (xs.flatMap f):=by
  intro m
  induction m with
  | zero=>exact fun _=>⟨[],rfl,by simp,fun i v hv=>by simp at hv⟩
  | succ m ih =>
   intro hm;obtain⟨xs,h1,h2,h3⟩:=ih Om;have h4:=hel m Om;rw[List.getElem?_eq_getElem Om,hk,vB] at h4;cases h5:w.cells? base ⟨b,o+m*k,none⟩ k with
   | none=>rw[h5] at h4;cases h4
   | some l =>
    rw[h5] at h4;obtain⟨y,hy,rfl⟩:=hE n l _ h4;refine⟨xs++[y],by simp[h1],fun a ha=>?_,?_⟩
    ·rcases List.mem_append.1 ha with ha|ha
     ·exact h2 a ha
     ·obtain rfl:=List.mem_singleton.1 ha;exact hy
    ·rw[List.flatMap_append];refine h3.app ?_;rw[zG hf,h1];simpa using seg_of_cells h5
 obtain⟨xs,rfl,h2,h3⟩:=key len (Nat.le_refl _);exact⟨some ⟨b,o,none⟩,xs,cap,rfl,h2,_,cap,rfl,.inr ⟨b,o,rfl,h3⟩⟩
theorem ln {r:Reach} {b0:Nat} {t u e:TypeId} {cs:Array Value} {ts:List TypeId} {fs:Array Field} {i:Nat} (ht:P.underlying t=some (.struct fs)) (hts:P.cellTypes P.depth t=some ts) (hn:ts.length=P.cellsOf t)
  (hv:Value.okWide P w r b0 t (.agg cs)) (hu:ts[i]?=some u) (hue:P.underlying u=some (.slice e)):∀ a l c,cs[i]?=some (.slice (some a) l c)→a.spot=none:=by
 intro a l c hc;unfold Value.okWide at hv;rw[ht] at hv;obtain⟨cs',h1,h2,ts',h3,_,h4⟩:=hv;cases h1;rw[hts] at h3;cases h3;obtain⟨u',h5,h6⟩:=h4 i _ hc;have hi:i<ts.length:=by
  rcases Nat.lt_or_ge i ts.length with h|h
  ·exact h
  ·rw[List.getElem?_eq_none h] at hu;cases hu
 rw[Nat.mod_eq_of_lt hi,hu] at h5;cases h5;unfold Cell.okWide Cell.ok at h6;rw[hue] at h6;exact h6.2.2.2.1
end
section
variable {H:Type} {enc:TypeId × Value→H} {w:World} {base:Nat} {spare:Nat→Bool} {held:Bool} {fuel:Nat} {cs:LV} {x:DataW H × List MemPlace}
theorem afP:Tryz.prog.cellsOf 22=1:=Kr
theorem ae2:Tryz.prog.cellsOf 3=1:=Kr
theorem nA:Tryz.prog.cellsOf 24=4:=Kr
theorem dr:Tryz.prog.cellsOf 26=16:=Kr
theorem lv (h:DataW.trod enc Tryz.prog w base spare held fuel 24 cs=some x):∃ n:Nat,n<ze∧cs=zc n:=dE Tryz.underlying24 Tryz.underlying22 nA afP h
theorem ab7 (h:DataW.trod enc Tryz.prog w base spare held fuel 26 cs=some x):∃ p q g u,p<ze∧q<ze∧g<ze∧u<ze∧cs=yC p q g u:=by
 have hl:=tg Tryz.underlying26 dr h;obtain⟨_,_,h0⟩:=yo Tryz.underlying26 h (i:=0) (off:=0) (ty:=24) rfl rfl rfl nA;obtain⟨_,_,h1⟩:=yo Tryz.underlying26 h (i:=1) (off:=4) (ty:=24) rfl rfl rfl nA;obtain⟨_,_,h2⟩:=yo Tryz.underlying26 h (i:=2) (off:=8) (ty:=24) rfl rfl rfl nA;obtain⟨_,_,h3⟩:=yo Tryz.underlying26 h (i:=3) (off:=12) (ty:=24) rfl rfl rfl nA;obtain⟨a,ha,e0⟩:=lv h0;obtain⟨b,hb,e1⟩:=lv h1;obtain⟨c,hc,e2⟩:=lv h2;obtain⟨d,hd,e3⟩:=lv h3;refine⟨a,b,c,d,ha,hb,hc,hd,?_⟩;rw[← zB hl,← yR cs 0 4 12,← yR cs (0+4) 4 8,← yR cs (0+4+4) 4 4,e0,e1,e2,e3];rfl
theorem ada {i:Nat} {v:Value} (h:cut cs i 1=[v]):cs[i]?=some v:=by
 have:=vm (j:=0) (v:=v) h rfl;rwa [Nat.add_zero] at this
theorem cW {o n i:Nat} {v:Value} (h:(cut cs o n)[i]?=some v):cs[o+i]?=some v:=by
 unfold cut at h;rw[List.getElem?_take] at h
 split at h
 ·rwa [List.getElem?_drop] at h
 ·cases h
theorem rA {P:Program} {t:TypeId} (ht:P.underlying t=some (.int .u32)) (h:DataW.trod enc P w base spare held fuel t cs=some x):∃ n:Nat,n<4294967296∧cs=[.int .u32 (n:Int)]:=by
 obtain⟨n,rfl,_,hw⟩:=DataW.trod_int ht h;simp only[Lit.wf,IntKind.min,IntKind.max,IntKind.signed,IntKind.bits,Bool.and_eq_true,decide_eq_true_eq] at hw;have h1:(0:Int)≤n:=by simpa using hw.1
 have h2:n≤4294967295:=by simpa using hw.2
 exact⟨n.toNat,by omega,by rw[Int.toNat_of_nonneg h1]⟩
theorem kx:Tryz.prog.cellsOf 103=8:=Kr
theorem fh:Tryz.prog.cellsOf 27=1:=Kr
theorem abd:Tryz.prog.cellsOf 29=23:=Kr
theorem acZ:Tryz.prog.cellsOf 79=1:=Kr
theorem aI (h:DataW.trod enc Tryz.prog w base spare held fuel 103 cs=some x):∃ k:Nat × Nat,(k.1<ze∧k.2<ze)∧cs=ym k:=by
 have hl:=tg Tryz.underlying103 kx h;obtain⟨_,_,h0⟩:=yo Tryz.underlying103 h (i:=0) (off:=0) (ty:=24) rfl rfl rfl nA;obtain⟨_,_,h1⟩:=yo Tryz.underlying103 h (i:=1) (off:=4) (ty:=24) rfl rfl rfl nA;obtain⟨a,ha,e0⟩:=lv h0;obtain⟨b,hb,e1⟩:=lv h1;refine⟨(a,b),⟨ha,hb⟩,?_⟩;rw[← zB hl,← yR cs 0 4 4,e0,e1];rfl
theorem aep (h:DataW.trod enc Tryz.prog w base spare held fuel 29 cs=some x) (hs:∀ a l c,cs[22]?=some (.slice (some a) l c)→a.spot=none) :
  ∃ p q g u a f sec pt ks c,(p<ze∧q<ze∧g<ze∧u<ze∧a<ze)∧(-9223372036854775808≤f∧f≤9223372036854775807∧-9223372036854775808≤sec∧sec≤9223372036854775807)∧zY ks∧cs=csC p q g u a f sec (.slice pt (List.length ks) c)∧RdF ym (.slice pt ks.length c) ks w:=by
 have hl:=tg Tryz.underlying29 abd h;obtain⟨_,_,h0⟩:=yo Tryz.underlying29 h (i:=0) (off:=0) (ty:=26) rfl rfl rfl dr;obtain⟨_,_,h1⟩:=yo Tryz.underlying29 h (i:=1) (off:=16) (ty:=24) rfl rfl rfl nA;obtain⟨_,_,h2⟩:=yo Tryz.underlying29 h (i:=2) (off:=20) (ty:=3) rfl rfl rfl ae2;obtain⟨_,_,h3⟩:=yo Tryz.underlying29 h (i:=3) (off:=21) (ty:=3) rfl rfl rfl ae2;obtain⟨_,_,h4⟩:=yo Tryz.underlying29 h (i:=4) (off:=22) (ty:=27) rfl rfl rfl fh;obtain⟨p,q,g,u,hp,hq,hg,hu,e0⟩:=ab7 h0;obtain⟨a,ha,e1⟩:=lv h1;obtain⟨f,hf1,hf2,e2⟩:=mj Tryz.underlying3 h2;obtain⟨sec,hs1,hs2,e3⟩:=mj Tryz.underlying3 h3;obtain⟨pt,ks,c,e4,hN,hR⟩:=dq (f:=ym) (ok:=fun k=>k.1<ze∧k.2<ze) Tryz.underlying27 kx vO (fun _ _ _ h=>aI h) h4 (fun a l c e=>hs a l c (ada e));refine⟨p,q,g,u,a,f,sec,pt,ks,c,⟨hp,hq,hg,hu,ha⟩,⟨hf1,hf2,hs1,hs2⟩,hN,?_,hR⟩;rw[← zB hl,← yR cs 0 16 7,← yR cs (0+16) 4 3,← yR cs (0+16+4) 1 2,← yR cs (0+16+4+1) 1 1,e0,e1,e2,e3,e4];rfl
end
end Sx
end
end Go.Proofs.YtiaibpcaloigkaaGreatDoor
namespace Go.Proofs.YtiaibpcaloigkaaGreatDoor.Ou
section
open Go Go.RowKit Go.BigFrame Go.ChangeShapes Go.WideShapes Go.ChangeAt Sx
theorem own:ownKnob Tryz.prog.godebug=none:=by kernel_rfl
theorem af9:laidOutB Tryz.prog=true:=by kernel_rfl
abbrev jS:List (String × DataW Unit):=[("errors.errorType",Rows.laid_errors_errorType)]
theorem et:Tryz.prog.globalNamed "errors.errorType"=some 0:=by kernel_rfl
theorem rt:(Tryz.prog.cutTypes.find? (·.1 == "internal/reflectlite.rtype")).map (·.2)=some 341:=by kernel_rfl
theorem ae5:((List.range Tryz.prog.types.size).filter fun t=>Tryz.prog.rowNamed t [101,114,114,111,114])=[174]:=by kernel_rfl
theorem r5 {W:World} (h:laidMetH Tryz.prog jS W):si W:=by
 have h' : laidMet Tryz.prog [] W∧handlesMet Tryz.prog jS W:=h;obtain⟨name,u,ty,e1,e2,e3,e4,e5⟩:=h'.2 _ (List.mem_singleton.2 rfl);have en:name=[101,114,114,111,114]:=(Option.some.inj e1).symm;subst en;obtain rfl:=Option.some.inj (rt.symm.trans e2);have hm:ty∈(List.range Tryz.prog.types.size).filter fun t=>Tryz.prog.rowNamed t [101,114,114,111,114]:=List.mem_filter.2 ⟨List.mem_range.2 e3,e4⟩;rw[ae5] at hm;obtain rfl:=List.mem_singleton.1 hm;have hh:typeHandle Tryz.prog 174=.pointer (some ⟨3,174,none⟩):=by kernel_rfl
 rw[hh] at e5;have hc:W.cell? ⟨0,0,none⟩=some acu:=by simpa using World.var?_cell et e5 0
 intro i v hv
 match i,hv with
 | 0,hv=>rw[show v=acu from (Option.some.inj hv).symm];exact hc
set_option maxRecDepth 100000 in
theorem bj (os:Os) (args:Array Value):laidMetH Tryz.prog jS ((World.doorLaid Tryz.prog 24 os).forCall (fun _ _=>0) ⟨#[],args,[]⟩).memory :=
 laidMetH_of_parts (laidMet_nil _ _) (by kernel_rfl)
end
end Go.Proofs.YtiaibpcaloigkaaGreatDoor.Ou
namespace Go.Proofs.YtiaibpcaloigkaaGreatDoor
section
open Go Go.RowKit Go.BigFrame Go.WideShapes
namespace Sx
section
variable {H:Type} {enc:TypeId × Value→H} {w:World} {base:Nat} {spare:Nat→Bool} {held:Bool} {fuel:Nat} {cs:LV} {x:DataW H × List MemPlace}
theorem aei:Tryz.prog.cellsOf 92=26:=Kr
theorem afF (h:DataW.trod enc Tryz.prog w base spare held fuel 92 cs=some x) (hs:∀ a l c,cs[22]?=some (.slice (some a) l c)→a.spot=none) :
  ∃ p q g u a f sec pt ks c,∃ seed one two:Nat,(p<ze∧q<ze∧g<ze∧u<ze∧a<ze)∧(-9223372036854775808≤f∧f≤9223372036854775807∧-9223372036854775808≤sec∧sec≤9223372036854775807)∧zY ks∧seed<4294967296∧one<4294967296∧two<4294967296∧cs=csC p q g u a f sec (.slice pt (List.length ks) c)++([.int .u32 (seed:Int),.int .u32 (one:Int),.int .u32 (two:Int)]:LV)∧RdF ym (.slice pt ks.length c) ks w:=by
 have hl:=tg Tryz.underlying92 aei h;obtain⟨_,_,h0⟩:=yo Tryz.underlying92 h (i:=0) (off:=0) (ty:=29) rfl rfl rfl abd;obtain⟨_,_,h1⟩:=yo Tryz.underlying92 h (i:=1) (off:=23) (ty:=79) rfl rfl rfl acZ;obtain⟨_,_,h2⟩:=yo Tryz.underlying92 h (i:=2) (off:=24) (ty:=79) rfl rfl rfl acZ;obtain⟨_,_,h3⟩:=yo Tryz.underlying92 h (i:=3) (off:=25) (ty:=79) rfl rfl rfl acZ;obtain⟨p,q,g,u,a,f,sec,pt,ks,c,b1,b2,b3,e0,hR⟩:=aep h0 (fun a l c e=>hs a l c (by have:=cW e;rwa [Nat.zero_add] at this));obtain⟨seed,hf1,e1⟩:=rA Tryz.underlying79 h1;obtain⟨one,hf2,e2⟩:=rA Tryz.underlying79 h2;obtain⟨two,hf3,e3⟩:=rA Tryz.underlying79 h3;refine⟨p,q,g,u,a,f,sec,pt,ks,c,seed,one,two,b1,b2,b3,hf1,hf2,hf3,?_,hR⟩;rw[← zB hl,← yR cs 0 23 3,← yR cs (0+23) 1 2,← yR cs (0+23+1) 1 1,e0,e1,e2,e3];rfl
end
end Sx
end
end Go.Proofs.YtiaibpcaloigkaaGreatDoor
namespace Go.Proofs.YtiaibpcaloigkaaGreatDoor.Ou
section
open Go Go.RowKit Go.BigFrame Go.ChangeShapes Go.WideShapes Go.ChangeAt Sx
theorem abV:Tryz.prog.readableRec 92=true:=by kernel_rfl
theorem fQ:Tryz.prog.cellTypes Tryz.prog.depth 92=some (List.replicate 20 22++[3,3,27,79,79,79]):=by kernel_rfl
end
end Go.Proofs.YtiaibpcaloigkaaGreatDoor.Ou
namespace Go.Proofs.YtiaibpcaloigkaaGreatDoor
section
open Go Go.RowKit Go.BigFrame
namespace Sx
attribute [local irreducible] DQ WC WO WT WX hOf wd
def sQ:ByteArray:=⟨#[103,101,110,101,115,105,115]⟩
def gnK (k:Nat × Nat):List Nat:=be 32 k.1++be 32 k.2
def gn3 (p q g h F m n:Nat):List Nat:=[p,q,g,h].flatMap (be 32)++[F,m,n]
def gnB (p q g h F m:Nat) (N:LP):List Nat:=gn3 p q g h F m N.length++N.flatMap gnK
def gnH (p q g h F m:Nat) (N:LP):List Nat:=hOf (zN sQ) [gnB p q g h F m N]
theorem jC:∀ l:List Nat,(l.flatMap (be 32)).length=32*l.length
 | []=>rfl
 | a::l=>by rw[List.flatMap_cons,List.length_append,zk,jC l,List.length_cons];omega
theorem ek (p q g h F m n:Nat):(gn3 p q g h F m n).length=131:=by unfold gn3;rw[List.length_append,jC];rfl
theorem adi (k:Nat × Nat):(gnK k).length=64:=by unfold gnK;rw[List.length_append,zk,zk]
theorem pA:∀ N:List (Nat × Nat),(N.flatMap gnK).length=N.length*64
 | []=>rfl
 | k::N=>by rw[List.flatMap_cons,List.length_append,adi,pA N,List.length_cons];omega
theorem ae0 {p q g h F m:Nat} {N:LP} (hF:F<256) (hm:m<256) (hN:N.length<256):∀ b∈gnB p q g h F m N,b<256:=by
 intro b hb;unfold gnB gn3 at hb
 rcases List.mem_append.1 hb with hb|hb
 ·rcases List.mem_append.1 hb with hb|hb
  ·obtain⟨x,_,hx⟩:=List.mem_flatMap.1 hb;exact vk b hx
  ·simp only[List.mem_cons,List.not_mem_nil,or_false] at hb;omega
 ·obtain⟨k,_,hk⟩:=List.mem_flatMap.1 hb;unfold gnK at hk
  rcases List.mem_append.1 hk with hk|hk
  ·exact vk b hk
  ·exact vk b hk
section
variable (p q g h F m:Nat) (pt:Option Addr) (c:Nat) (N:LP)
theorem ae4 (f sec:Int) (hp:p<ze) (hq:q<ze) (hg:g<ze) (hh:h<ze) (hN:zY N) (hNl:N.length≤100) (hf1 : -9223372036854775808≤f) (hf2:f≤9223372036854775807) (hs1 : -9223372036854775808≤sec) (hs2:sec≤9223372036854775807) (hs:yX p q g h f sec N=false) :
  Fn Tryz.prog 24 [stV p q g h f sec (.slice pt N.length c)] (RdF ym (.slice pt N.length c) N) (Is (.agg (byC (List.replicate 32 0)).toArray)):=by
 have hS:=yn p q g h f sec pt c N hp hq hg hh hN Om hf1 hf2 hs1 hs2;rw[hs] at hS;refine Fn.enter Tryz.func24 rfl rfl rfl ?_;intro w hw
 repeat (first|refine WO.does (zt (cs:=byC (List.replicate 32 0)) rfl rfl Kr) ?_|refine Tj ?_|intro _|refine WO.acallR (hc:=hS) (hR:=fun wx hm=>(hw.mod hm.mod).rdK) (k:=?_)|refine Tc ?_|exact Tz)
 done
theorem aen (hp:p<ze) (hq:q<ze) (hg:g<ze) (hh:h<ze) (hN:zY N) (hNl:N.length≤100) (hs:yX p q g h (F:Int) (m:Int) N=true) :
  Fn Tryz.prog 24 [stV p q g h (F:Int) (m:Int) (.slice pt N.length c)] (RdF ym (.slice pt N.length c) N) (Is (.agg (byC (gnH p q g h F m N)).toArray)):=by
 obtain⟨s1,s7,_,_,_,s5,_,_⟩:=zX hs;have hS:=yn p q g h (F:Int) (m:Int) pt c N hp hq hg hh hN Om Om Om Om Om;rw[hs] at hS;have hHl:(byC (gnH p q g h F m N)).length=32:=by rw[zd];exact zO _ _
 have hHof:=fun (B0 c0 gp:Nat)=>mR sQ [AQ B0 (131+N.length*64) c0] [gnB p q g h F m N] gp 0 1 (fun X hX=>by
  rw[List.mem_singleton.1 hX];exact ae0 Om Om Om) (by
  have e:=pA N;simp only[yz,uE,yG,List.flatMap_cons,List.flatMap_nil,List.length_append,zk,z6,List.length_nil,gnB,ek,e];have:sQ.size=7:=rfl;omega) Dt
 rw[show hOf (zN sQ) [gnB p q g h F m N]=gnH p q g h F m N from rfl] at hHof;have hcF:IntKind.u8.wrap (F:Int)=(F:Int):=u8_in Om Om;have hcm:IntKind.u8.wrap (m:Int)=(m:Int):=u8_in Om Om;have hcN:IntKind.u8.wrap (N.length:Int)=(N.length:Int):=u8_in Om Om;refine Fn.enter Tryz.func24 rfl rfl rfl ?_;intro w hw
 repeat (first|refine Tj ?_|intro _|refine WO.acallR (hc:=hS) (hR:=fun wx hm=>(hw.mod hm.mod).rdK) (k:=?_)|refine Tc ?_|exact Tz)
 rename_i gS gR;refine WO.makes (zh (cs:=[p,q,g,h].flatMap zc) rfl Dt rfl) ?_;intro gl
 repeat (first|refine Tk ?_|intro _|exact Tz)
 refine WC.loopI (σ:=Nat × Nat) (fun s=>s.1≤4) (fun s=>[(1,Sx.pt gS),(2,Sx.pt gR),(3,agV s.2 (32*s.1) (32*s.1) (32*s.1)),(24,AQ gl 4 4),(25,.int .i64 4),(26,.int .i64 (s.1:Int))])
  (fun s=>⟨gl,24,[p,q,g,h].flatMap zc⟩::⟨gS,36,stC p q g h (F:Int) (m:Int) (.slice pt N.length c)⟩::⟨gR,70,byC (List.replicate 32 0)⟩::rwL 5 s.2 (byC (([p,q,g,h].take s.1).flatMap (be 32))) [] (32*s.1)) (fun s=>4 - s.1) (0,0) (fun s hi=>?_) Dt
 obtain⟨i,gb⟩:=s
 try dsimp only at hi ⊢
 by_cases hlt:i<4
 ·obtain⟨x,hx⟩ : ∃ x,[p,q,g,h][i]?=some x:=⟨_,List.getElem?_eq_getElem (by simpa using hlt)⟩;have hcx:cut ([p,q,g,h].flatMap zc) (0+i*4 - 0) 4=zc x:=by rw[Nat.zero_add,Nat.sub_zero];exact zI zR hx
  have hadd:IntKind.i64.wrap ((i:Int)+1)=((i+1:Nat):Int):=zl Om Om Om;have hnx:([p,q,g,h].take i).flatMap (be 32)++be 32 x=([p,q,g,h].take (i+1)).flatMap (be 32):=by rw[List.take_add_one,hx,List.flatMap_append];simp
  have hBl:(([p,q,g,h].take i).flatMap (be 32)).length=32*i:=by rw[jC,List.length_take];simp;omega
  generalize ([p,q,g,h].take i).flatMap (be 32)=B at *;have hl2:(B++be 32 x).length=32*(i+1):=by rw[List.length_append,zk,hBl];omega
  repeat (first|refine Tk ?_|intro _|exact Tz)
  refine WC.dT rfl Om ?_
  repeat (first|refine WO.does (zb (o':=0+i*4) rfl rfl hlt rfl) ?_|refine WO.does (zx (vs:=zc x) (hc:=by rw[← hcx];rfl)) ?_|refine Tj ?_|intro _|refine Tc ?_|exact Tz)
  obtain⟨p0,c0,hp0,hrd⟩ : ∃ p0 c0,agV gb (32*i) (32*i) (32*i)=.slice p0 (32*i) c0∧∀ {wx:World},(∀ e∈rwL 5 gb (byC B) [] (32*i),e.ok wx)→Rd (.slice p0 (32*i) c0) (32*i) (byC B) wx:=by
   rcases Nat.eq_zero_or_pos i with h0|h0
   ·subst h0;have:B=[]:=List.length_eq_zero_iff.1 Om;subst this;exact⟨none,0,rfl,fun _=>Rd.nil⟩
   ·obtain⟨j,hj⟩ : ∃ j,32*i=j+1:=⟨32*i - 1,by omega⟩;rw[hj];exact⟨_,_,rfl,fun hm=>Rd.of ((hm ⟨gb,5,byC B++[]⟩ (by simp[rwL])).seg 0 |> Seg.preO)⟩
  have hP:=yL B x c0 p0 Om;rw[hl2,hBl] at hP;rw[hp0];refine WO.acallN (hc:=hP) (hR:=fun wx hm=>hrd (fun e he=>hm.ok e (by repeat (first|exact he|apply List.mem_cons_of_mem)))) (k:=fun g1=>?_);rw[hnx]
  repeat (first|refine WO.does (zj rfl rfl hadd) ?_|refine Tj ?_|intro _|refine Tc ?_|exact Tz)
  exact WX.metI (i+1,g1) (hk:=by simp only[yM (show 0<32*(i+1) by omega)];repeat (first|exact Kle.nil|refine Kle.cons rfl rfl ?_)) (hl:=by rw[yw Om];simp only[List.append_nil,List.cons_append,List.nil_append];repeat (first|exact Lle.nil|exact Lle.left'|refine Lle.c ?_|refine Lle.skp ?_)) (hs:=⟨by show i+1≤4;omega,by show 4 - (i+1)<4 - i;omega⟩)
 have hi4:i=4:=by omega
 subst hi4;have hB4:([p,q,g,h].take 4).flatMap (be 32)=[p,q,g,h].flatMap (be 32):=rfl;rw[hB4];obtain⟨B4,hB⟩ : ∃ B4,[p,q,g,h].flatMap (be 32)=B4:=⟨_,rfl⟩;have hBl:B4.length=128:=by rw[← hB,jC];rfl
 rw[hB]
 repeat (first|refine WO.does (zy rfl hcF) ?_|refine WO.does (zy rfl hcm) ?_|refine WO.does (zy rfl hcN) ?_|refine Tj ?_|intro _|refine Tc ?_|exact Tz)
 refine WO.makes (zh (cs:=[.int .u8 (F:Int),.int .u8 (m:Int),.int .u8 (N.length:Int)]) rfl Dt rfl) ?_;intro g3;refine WO.appR (z:=[.int .u8 0]) (g:=gb) (c:=128) (n:=128) (m:=3) (l:=131) (B:=byC B4) (ys:=byC [F,m,N.length]) (L1:=[_,_,_,_]) (L2:=[]) rfl rfl rfl (by rw[List.append_nil];rfl) (by rw[zd,hBl];rfl) (fun _=>⟨by decide,by decide⟩) (Rds.own (m:=3) Hs.here rfl) rfl rfl Dt rfl Dt Dt Dt Dt (fun g1 c1 a1 a2=>?_);have hB3:byC B4++byC [F,m,N.length]=byC (gn3 p q g h F m N.length):=by rw[← zW,← hB];rfl
 rw[hB3];clear hB3 hB4 hB hBl;simp only[List.cons_append,List.nil_append,List.append_nil]
 repeat (first|refine Tk ?_|intro _|exact Tz)
 refine WC.loopI (σ:=Nat × Nat × Nat) (fun s=>s.1≤N.length∧(131+s.1*64≤s.2.2∧s.2.2<9223372036854775808)) (fun s=>[(1,Sx.pt gS),(2,Sx.pt gR),(3,AQ s.2.1 (131+s.1*64) s.2.2),(48,.slice pt N.length c),(49,.int .i64 (N.length:Int)),(50,.int .i64 (s.1:Int))])
  (fun s=>[⟨s.2.1,5,byC (gn3 p q g h F m N.length++(N.take s.1).flatMap gnK)++mkz (s.2.2 - (131+s.1*64)) [.int .u8 0]⟩,⟨gS,36,stC p q g h (F:Int) (m:Int) (.slice pt N.length c)⟩,⟨gR,70,byC (List.replicate 32 0)⟩]) (fun s=>N.length - s.1) (0,g1,c1) (fun s hi=>?_) ⟨Nat.zero_le _,a2,a1⟩ (hl:=by simp only[List.take_zero,List.flatMap_nil,List.append_nil];repeat (first|exact Lle.nil|refine Lle.c ?_|refine Lle.skp ?_))
 obtain⟨i,gw,cw⟩:=s;obtain⟨hi,hr1,hr2⟩:=hi
 try dsimp only at hi hr1 hr2 ⊢
 have hWl:(gn3 p q g h F m N.length++(N.take i).flatMap gnK).length=131+i*64:=by rw[List.length_append,ek,pA,List.length_take,Nat.min_eq_left hi]
 by_cases hlt:i<N.length
 ·obtain⟨k,hk⟩ : ∃ k,N[i]?=some k:=⟨_,List.getElem?_eq_getElem hlt⟩;have hnx:gn3 p q g h F m N.length++(N.take i).flatMap gnK++be 32 k.1++be 32 k.2=gn3 p q g h F m N.length++(N.take (i+1)).flatMap gnK:=by
   rw[List.take_add_one,hk,List.flatMap_append];simp[gnK]
  generalize gn3 p q g h F m N.length++(N.take i).flatMap gnK=B at *;have hP1:=yL B k.1 cw (some ⟨gw,0,none⟩) Om;have hl1:(B++be 32 k.1).length=131+i*64+32:=by rw[List.length_append,zk,hWl]
  have hP2:=fun ga=>yL (B++be 32 k.1) k.2 (131+i*64+32) (some ⟨ga,0,none⟩) Om;have hl2:(B++be 32 k.1++be 32 k.2).length=131+(i+1)*64:=by rw[List.length_append,zk,hl1];omega
  rw[hl1,hWl] at hP1;rw[hl2,hl1] at hP2;obtain⟨bN,oN,rfl,_,hsN⟩:=id hw |>.get hk
  have hck:cut (N.flatMap ym) (oN+i*8 - oN) 8=ym k:=by
   rw[Nat.add_sub_cancel_left];exact zI (f:=ym) (k:=8) (fun _=>rfl) hk
  have hadd:IntKind.i64.wrap ((i:Int)+1)=((i+1:Nat):Int):=zl Om Om Om
  repeat (first|refine Tk ?_|intro _|exact Tz)
  refine WC.dT rfl Om ?_
  repeat (first|refine WO.does (zb (o':=oN+i*8) rfl rfl hlt rfl) ?_|refine WO.does (zm (vs:=ym k) (hs:=hsN) (hle:=Nat.le_add_right _ _) (hc:=hck)) ?_|refine Tj ?_|intro _|refine Tc ?_|exact Tz)
  rename_i gk;refine WC.mainV [3,6,7] [(0,AQ gw (131+i*64) cw),(1,Ap gk),(2,zi k.1),(4,.pointer (some ⟨gk,4,none⟩)),(5,zi k.2)] Dt ?_;refine WT.with [⟨gk,105,ym k⟩] Kr (Tlv.auto (Tlv.auto (Tlv.auto (Tlv.auto (Tlv.auto Tlv.nil))))) (fun hc hT=>?_)
  refine WT.one (m:=3) rfl hc hT ?_;refine WO.acallN (hc:=hP1) (hR:=fun wx hm=>Rd.of (Seg.preO (Hs.sg hm))) (k:=fun ga=>?_);refine WO.nil (WX.wt [(57,AQ ga (131+i*64+32) (131+i*64+32))] ?_);refine WT.one (m:=6) rfl hc hT ?_;refine WO.acallN (hc:=hP2 ga) (hR:=fun wx hm=>Rd.of (Hs.sg hm)) (k:=fun gc=>?_);refine WO.nil (WX.wt [(60,AQ gc (131+(i+1)*64) (131+(i+1)*64))] ?_);refine WT.one (m:=7) rfl hc hT ?_;refine Tw ?_;refine WO.nil (WX.wt [(3,AQ gc (131+(i+1)*64) (131+(i+1)*64))] ?_);refine WT.fin [7] 9 hc rfl Kr ?_;clear hc hT;rw[hnx]
  repeat (first|refine WO.does (zj rfl rfl hadd) ?_|refine Tj ?_|intro _|refine Tc ?_|exact Tz)
  exact WX.metI (i+1,gc,131+(i+1)*64) (hl:=by simp only[Nat.sub_self,mkz,List.replicate_zero,List.flatten_nil,List.append_nil];repeat (first|exact Lle.nil|refine Lle.c ?_|refine Lle.skp ?_)) (hs:=⟨⟨by show i+1≤N.length;omega,Nat.le_refl _,by show 131+(i+1)*64<9223372036854775808;omega⟩,by show N.length - (i+1)<N.length - i;omega⟩)
 have hi2:i=N.length:=by omega
 subst hi2;have hBe:gn3 p q g h F m N.length++(N.take N.length).flatMap gnK=gnB p q g h F m N:=by rw[List.take_length];rfl
 rw[hBe] at hWl ⊢
 repeat (first|refine Tk ?_|intro _|exact Tz)
 refine WC.dF rfl Om ?_
 repeat (first|refine Tk ?_|intro _|exact Tz)
 refine WO.makes (zh (cs:=[AQ gw (131+N.length*64) cw]) rfl Dt rfl) ?_;intro gp;refine WO.acallR (hc:=hHof gw cw gp) (hR:=fun wx hm=>⟨Hs.sg hm,zV.cons (by have:=RdP.own (t:=5) (g:=gw) (X:=gnB p q g h F m N) (r:=mkz (cw - (131+N.length*64)) [.int .u8 0]) hm Hs.a Om hr2;rw[hWl] at this;exact this) zV.nil⟩) (k:=?_);generalize gnH p q g h F m N=HS at *
 repeat (first|refine Tj ?_|intro _|refine WO.stores (zo (vs:=byC HS) (cs':=byC HS) (hl:=hHl) (h1:=zZ HS) (hc:=zJ (by rw[hHl];rfl)) (hle:=by rw[hHl];rfl)) ?_|refine Tc ?_|exact Tz)
 exact WX.aret1 (hr:=vQ (vs:=byC HS) (hc:=zB hHl) (hl:=hHl)) (hp:=rfl)
end
end Sx
end
section
open Go Go.RowKit Go.BigFrame
namespace Sx
attribute [local irreducible] DQ WC WO WX vi ddH hOf wd
def swW (ep:Nat) (x:(Dd × Dk) × Nw):Sw:=⟨ep,x.1.1.d,some ⟨x.2.g,0,none⟩,x.2.xs,x.2.c⟩
abbrev swZ:List Value:=[.int .u64 0,.int .u8 0,.slice none 0 0]
end Sx
end
end Go.Proofs.YtiaibpcaloigkaaGreatDoor
