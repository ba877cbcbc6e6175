/- Part 43 of the proof. -/
import Derived.Test.YtiaibpcaloigkaaGreatDoorG42
import Derived.Test.YtiaibpcaloigkaaGreatDoorCards
import Derived.Test.YtiaibpcaloigkaaGreatDoorTie
import Derived.ProofKit
import Derived.LaidMore
import Derived.Stop.Joined
import Derived.SevenTiedAt
import Derived.ChangeArms
import Derived.OpenShut
import Derived.DataReads
import Derived.WideShapes
set_option linter.unusedSimpArgs false
set_option linter.unusedVariables false
namespace Go.Proofs.YtiaibpcaloigkaaGreatDoor
section
open Go Go.RowKit Go.BigFrame Go.WideShapes
namespace Sx
theorem ua (cs:LV) (a b c:Nat):cut cs a b++cut cs (a+b) c=cut cs a (b+c):=by
 unfold cut;rw[List.take_add,List.drop_drop]
section
variable {H:Type} {enc:TypeId × Value→H} {P:Program} {w:World} {base:Nat} {spare:Nat→Bool} {held:Bool} {fuel:Nat} {cs:LV} {x:DataW H × List MemPlace}
theorem rG {t:TypeId} {fs:Array Field} {m:Nat} (ht:P.underlying t=some (.struct fs)) (hm:P.cellsOf t=m) (h:DataW.trod enc P w base spare held fuel t cs=some x):cs.length=m:=by
 obtain⟨xs,n,_,_,hl,_⟩:=DataW.trod_struct ht h;rw[hl,hm]
theorem y4 {t:TypeId} {fs:Array Field} (ht:P.underlying t=some (.struct fs)) (h:DataW.trod enc P w base spare held fuel t cs=some x) {i off ty sz:Nat} {f:Field} (hf:fs[i]?=some f) (ho:f.offset=off) (hty:f.type=ty) (hs:P.cellsOf ty=sz) :
  ∃ n y,DataW.trod enc P w base spare held n ty (cut cs off sz)=some y:=by
 obtain⟨xs,n,_,_,_,hlen,hp⟩:=DataW.trod_struct ht h;have h1:=hp i f hf;subst ho hty hs;have hi:i<xs.length:=by
  rw[hlen]
  rcases Nat.lt_or_ge i fs.size with h2|h2
  ·exact h2
  ·rw[Array.getElem?_eq_none h2] at hf;cases hf
 rw[List.getElem?_eq_getElem hi] at h1;exact⟨n,_,h1⟩
theorem tR {t:TypeId} (ht:P.underlying t=some (.int .u64)) (h:DataW.trod enc P w base spare held fuel t cs=some x):∃ n:Nat,n<18446744073709551616∧cs=[.int .u64 (n:Int)]:=by
 obtain⟨n,rfl,_,hw⟩:=DataW.trod_int ht h;simp only[Lit.wf,IntKind.min,IntKind.max,IntKind.signed,IntKind.bits,Bool.and_eq_true,decide_eq_true_eq] at hw;have h1:(0:Int)≤n:=by simpa using hw.1
 have h2:n≤18446744073709551615:=by simpa using hw.2
 exact⟨n.toNat,by omega,by rw[Int.toNat_of_nonneg h1]⟩
theorem mW {t:TypeId} (ht:P.underlying t=some (.int .i64)) (h:DataW.trod enc P w base spare held fuel t cs=some x):∃ n:Int,-9223372036854775808≤n∧n≤9223372036854775807∧cs=[.int .i64 n]:=by
 obtain⟨n,rfl,_,hw⟩:=DataW.trod_int ht h;simp only[Lit.wf,IntKind.min,IntKind.max,IntKind.signed,IntKind.bits,Bool.and_eq_true,decide_eq_true_eq] at hw;exact⟨n,by simpa using hw.1,by simpa using hw.2,rfl⟩
theorem em {t e:TypeId} (ht:P.underlying t=some (.array 4 e)) (he:P.underlying e=some (.int .u64)) (h4:P.cellsOf t=4) (h1:P.cellsOf e=1) (h:DataW.trod enc P w base spare held fuel t cs=some x):∃ n:Nat,n<ze∧cs=zc n:=by
 obtain⟨xs,m,_,_,hl,hlen,hp⟩:=DataW.trod_array ht h;rw[h4] at hl
 match cs,hl with
 | [c0,c1,c2,c3],_ =>
  have k:∀ (i:Nat),i<4→∃ y,DataW.trod enc P w base spare held m e (([c0,c1,c2,c3].drop (i*P.cellsOf e)).take (P.cellsOf e))=some y:=fun i hi=>by
   have h2:=hp i hi;rw[List.getElem?_eq_getElem Om] at h2;exact⟨_,h2⟩
  rw[h1] at k;obtain⟨y0,k0⟩:=k 0 Om;obtain⟨y1,k1⟩:=k 1 Om;obtain⟨y2,k2⟩:=k 2 Om;obtain⟨y3,k3⟩:=k 3 Om;obtain⟨a0,b0,e0⟩:=tR he k0;obtain⟨a1,b1,e1⟩:=tR he k1;obtain⟨a2,b2,e2⟩:=tR he k2;obtain⟨a3,b3,e3⟩:=tR he k3;simp at e0 e1 e2 e3;subst e0 e1 e2 e3;obtain⟨w0,w1,w2,w3⟩:=ka b0 b1 b2 b3;exact⟨tn a0 a1 a2 a3,lx b0 b1 b2 b3,by rw[zc,w0,w1,w2,w3]⟩
theorem Seg.app {b o:Nat} {A B:LV} (hA:Seg w b o A) (hB:Seg w b (o+A.length) B):Seg w b o (A++B):=by
 intro i v hv
 rcases Nat.lt_or_ge i A.length with h|h
 ·rw[List.getElem?_append_left h] at hv;exact hA i v hv
 ·rw[List.getElem?_append_right h] at hv;have:=hB _ v hv;rwa [show o+A.length+(i - A.length)=o+i by omega] at this
theorem seg_of_cells {b o n:Nat} {l:LV} (h:w.cells? base ⟨b,o,none⟩ n=some l):Seg w b o l:=by
 obtain⟨_,hl,hc⟩:=World.cells?_some h;intro i v hv;have hi:i<n:=by
  rw[← hl]
  rcases Nat.lt_or_ge i l.length with h1|h1
  ·exact h1
  ·rw[List.getElem?_eq_none h1] at hv;cases hv
 have:=hc i hi;rw[vS] at this;rw[this,hv]
theorem mU {α:Type} {f:α→List Value} {ok:α→Prop} {t e:TypeId} {k:Nat} (ht:P.underlying t=some (.slice e)) (hk:P.cellsOf e=k) (hf:∀ a,(f a).length=k)
  (hE:∀ (fuel:Nat) (cs:LV) (x:DataW H × List MemPlace),DataW.trod enc P w base spare held fuel e cs=some x→∃ a,ok a∧cs=f a)
  (h:DataW.trod enc P w base spare held fuel t cs=some x) (hs:∀ a l c,cs=[.slice (some a) l c]→a.spot=none) :
  ∃ pt xs c,cs=[.slice pt xs.length c]∧(∀ a∈xs,ok a)∧RdF f (.slice pt xs.length c) xs w:=by
 rcases DataW.trod_slice ht h with ⟨rfl,_⟩|⟨a,len,cap,elems,rest,n,_,rfl,_,_,_,_,hlen,hel,_⟩
 ·exact⟨none,[],0,rfl,by simp,none,0,rfl,.inl ⟨rfl,rfl⟩⟩
 have ha:=hs a len cap rfl;obtain⟨b,o,sp⟩:=a;simp only at ha;subst ha;have key:∀ m,m≤len→∃ xs:List α,xs.length=m∧(∀ a∈xs,ok a)∧Seg w b o (xs.flatMap f):=by
  intro m
  induction m with
  | zero=>exact fun _=>⟨[],rfl,by simp,fun i v hv=>by simp at hv⟩
  | succ m ih =>
   intro hm;obtain⟨xs,h1,h2,h3⟩:=ih Om;have h4:=hel m Om;rw[List.getElem?_eq_getElem Om,hk,vS] at h4;cases h5:w.cells? base ⟨b,o+m*k,none⟩ k with
   | none=>rw[h5] at h4;cases h4
   | some l =>
    rw[h5] at h4;obtain⟨y,hy,rfl⟩:=hE n l _ h4;refine⟨xs++[y],by simp[h1],fun a ha=>?_,?_⟩
    ·rcases List.mem_append.1 ha with ha|ha
     ·exact h2 a ha
     ·obtain rfl:=List.mem_singleton.1 ha;exact hy
    ·rw[List.flatMap_append];refine h3.app ?_;rw[zF hf,h1];simpa using seg_of_cells h5
 obtain⟨xs,rfl,h2,h3⟩:=key len (Nat.le_refl _);exact⟨some ⟨b,o,none⟩,xs,cap,rfl,h2,_,cap,rfl,.inr ⟨b,o,rfl,h3⟩⟩
theorem ko {r:Reach} {b0:Nat} {t u e:TypeId} {cs:Array Value} {ts:List TypeId} {fs:Array Field} {i:Nat} (ht:P.underlying t=some (.struct fs)) (hts:P.cellTypes P.depth t=some ts) (hn:ts.length=P.cellsOf t)
  (hv:Value.okWide P w r b0 t (.agg cs)) (hu:ts[i]?=some u) (hue:P.underlying u=some (.slice e)):∀ a l c,cs[i]?=some (.slice (some a) l c)→a.spot=none:=by
 intro a l c hc;unfold Value.okWide at hv;rw[ht] at hv;obtain⟨cs',h1,h2,ts',h3,_,h4⟩:=hv;cases h1;rw[hts] at h3;cases h3;obtain⟨u',h5,h6⟩:=h4 i _ hc;have hi:i<ts.length:=by
  rcases Nat.lt_or_ge i ts.length with h|h
  ·exact h
  ·rw[List.getElem?_eq_none h] at hu;cases hu
 rw[Nat.mod_eq_of_lt hi,hu] at h5;cases h5;unfold Cell.okWide Cell.ok at h6;rw[hue] at h6;exact h6.2.2.2.1
theorem fk {r:Reach} {b0:Nat} {t e:TypeId} {v:Value} (ht:P.underlying t=some (.slice e)) (h:Value.okWide P w r b0 t v):∃ a l c,v=.slice a l c∧∀ b,a=some b→b.spot=none:=by
 obtain⟨a,l,c,rfl⟩:=okWide_slice ht h;refine⟨a,l,c,rfl,?_⟩;rintro b rfl;simp only[Value.okWide,ht,Cell.okWide,Cell.ok] at h;exact h.2.2.2.1
end
section
variable {H:Type} {enc:TypeId × Value→H} {w:World} {base:Nat} {spare:Nat→Bool} {held:Bool} {fuel:Nat} {cs:LV} {x:DataW H × List MemPlace}
theorem ag3:Tryz.prog.cellsOf 22=1:=Kr
theorem agm:Tryz.prog.cellsOf 3=1:=Kr
theorem m5:Tryz.prog.cellsOf 24=4:=Kr
theorem eL:Tryz.prog.cellsOf 26=16:=Kr
theorem ke (h:DataW.trod enc Tryz.prog w base spare held fuel 24 cs=some x):∃ n:Nat,n<ze∧cs=zc n:=em Tryz.underlying24 Tryz.underlying22 m5 ag3 h
theorem aec (h:DataW.trod enc Tryz.prog w base spare held fuel 26 cs=some x):∃ p q g u,p<ze∧q<ze∧g<ze∧u<ze∧cs=yI p q g u:=by
 have hl:=rG Tryz.underlying26 eL h;obtain⟨_,_,h0⟩:=y4 Tryz.underlying26 h (i:=0) (off:=0) (ty:=24) rfl rfl rfl m5;obtain⟨_,_,h1⟩:=y4 Tryz.underlying26 h (i:=1) (off:=4) (ty:=24) rfl rfl rfl m5;obtain⟨_,_,h2⟩:=y4 Tryz.underlying26 h (i:=2) (off:=8) (ty:=24) rfl rfl rfl m5;obtain⟨_,_,h3⟩:=y4 Tryz.underlying26 h (i:=3) (off:=12) (ty:=24) rfl rfl rfl m5;obtain⟨a,ha,e0⟩:=ke h0;obtain⟨b,hb,e1⟩:=ke h1;obtain⟨c,hc,e2⟩:=ke h2;obtain⟨d,hd,e3⟩:=ke h3;refine⟨a,b,c,d,ha,hb,hc,hd,?_⟩;rw[← zt hl,← ua cs 0 4 12,← ua cs (0+4) 4 8,← ua cs (0+4+4) 4 4,e0,e1,e2,e3];rfl
theorem aeM {i:Nat} {v:Value} (h:cut cs i 1=[v]):cs[i]?=some v:=by
 have:=vb (j:=0) (v:=v) h rfl;rwa [Nat.add_zero] at this
theorem dE {P:Program} {t:TypeId} (ht:P.underlying t=some (.int .u32)) (h:DataW.trod enc P w base spare held fuel t cs=some x):∃ n:Nat,n<4294967296∧cs=[.int .u32 (n:Int)]:=by
 obtain⟨n,rfl,_,hw⟩:=DataW.trod_int ht h;simp only[Lit.wf,IntKind.min,IntKind.max,IntKind.signed,IntKind.bits,Bool.and_eq_true,decide_eq_true_eq] at hw;have h1:(0:Int)≤n:=by simpa using hw.1
 have h2:n≤4294967295:=by simpa using hw.2
 exact⟨n.toNat,by omega,by rw[Int.toNat_of_nonneg h1]⟩
theorem fp {P:Program} {α:Type} {f:α→List Value} {ok:α→Prop} {t e:TypeId} {k:Nat} (ht:P.underlying t=some (.slice e)) (hk:P.cellsOf e=k) (hk0:0<k) (hf:∀ a,(f a).length=k)
  (hE:∀ (fuel:Nat) (cs:LV) (x:DataW H × List MemPlace),DataW.trod enc P w base spare held fuel e cs=some x→∃ a,ok a∧cs=f a)
  (h:DataW.trod enc P w base spare held fuel t cs=some x):∃ pt xs c,cs=[.slice pt (List.length xs) c]∧(∀ a∈xs,ok a)∧RdE f (.slice pt xs.length c) xs w:=by
 rcases DataW.trod_slice ht (id h) with ⟨rfl,_⟩|⟨a,len,cap,elems,rest,n,_,rfl,_,_,_,_,hlen,hel,_⟩
 ·exact⟨none,[],0,rfl,by simp,none,0,rfl,.inl rfl⟩
 rcases Nat.eq_zero_or_pos len with h0|h0
 ·subst h0;exact⟨some a,[],cap,rfl,by simp,some a,cap,rfl,.inl rfl⟩
 ·have ha:a.spot=none:=by
   have h4:=hel 0 h0;rw[List.getElem?_eq_getElem Om,hk] at h4;cases h5:w.cells? base (a.add (0*k)) k with
   | none=>rw[h5] at h4;cases h4
   | some l =>
    obtain⟨_,hl,hc⟩:=World.cells?_some h5;have h6:=hc 0 hk0;rw[List.getElem?_eq_getElem Om] at h6;have h7:=World.cell?_spot h6;simpa [Addr.add] using h7
  obtain⟨pt,xs,c,e,h1,h2⟩:=mU ht hk hf hE h (fun a' l c e=>by cases e;exact ha);exact⟨pt,xs,c,e,h1,h2.toE⟩
theorem jC:Tryz.prog.cellsOf 103=8:=Kr
theorem bC:Tryz.prog.cellsOf 27=1:=Kr
theorem aci:Tryz.prog.cellsOf 29=23:=Kr
theorem agW:Tryz.prog.cellsOf 79=1:=Kr
theorem aa5 (h:DataW.trod enc Tryz.prog w base spare held fuel 103 cs=some x):∃ k:Nat × Nat,(k.1<ze∧k.2<ze)∧cs=ya k:=by
 have hl:=rG Tryz.underlying103 jC h;obtain⟨_,_,h0⟩:=y4 Tryz.underlying103 h (i:=0) (off:=0) (ty:=24) rfl rfl rfl m5;obtain⟨_,_,h1⟩:=y4 Tryz.underlying103 h (i:=1) (off:=4) (ty:=24) rfl rfl rfl m5;obtain⟨a,ha,e0⟩:=ke h0;obtain⟨b,hb,e1⟩:=ke h1;refine⟨(a,b),⟨ha,hb⟩,?_⟩;rw[← zt hl,← ua cs 0 4 4,e0,e1];rfl
theorem afd (h:DataW.trod enc Tryz.prog w base spare held fuel 29 cs=some x) (hs:∀ a l c,cs[22]?=some (.slice (some a) l c)→a.spot=none) :
  ∃ p q g u a f sec pt ks c,(p<ze∧q<ze∧g<ze∧u<ze∧a<ze)∧(-9223372036854775808≤f∧f≤9223372036854775807∧-9223372036854775808≤sec∧sec≤9223372036854775807)∧zZ ks∧cs=csC p q g u a f sec (.slice pt (List.length ks) c)∧RdF ya (.slice pt ks.length c) ks w:=by
 have hl:=rG Tryz.underlying29 aci h;obtain⟨_,_,h0⟩:=y4 Tryz.underlying29 h (i:=0) (off:=0) (ty:=26) rfl rfl rfl eL;obtain⟨_,_,h1⟩:=y4 Tryz.underlying29 h (i:=1) (off:=16) (ty:=24) rfl rfl rfl m5;obtain⟨_,_,h2⟩:=y4 Tryz.underlying29 h (i:=2) (off:=20) (ty:=3) rfl rfl rfl agm;obtain⟨_,_,h3⟩:=y4 Tryz.underlying29 h (i:=3) (off:=21) (ty:=3) rfl rfl rfl agm;obtain⟨_,_,h4⟩:=y4 Tryz.underlying29 h (i:=4) (off:=22) (ty:=27) rfl rfl rfl bC;obtain⟨p,q,g,u,hp,hq,hg,hu,e0⟩:=aec h0;obtain⟨a,ha,e1⟩:=ke h1;obtain⟨f,hf1,hf2,e2⟩:=mW Tryz.underlying3 h2;obtain⟨sec,hs1,hs2,e3⟩:=mW Tryz.underlying3 h3;obtain⟨pt,ks,c,e4,hN,hR⟩:=mU (f:=ya) (ok:=fun k=>k.1<ze∧k.2<ze) Tryz.underlying27 jC v7 (fun _ _ _ h=>aa5 h) h4 (fun a l c e=>hs a l c (aeM e));refine⟨p,q,g,u,a,f,sec,pt,ks,c,⟨hp,hq,hg,hu,ha⟩,⟨hf1,hf2,hs1,hs2⟩,hN,?_,hR⟩;rw[← zt hl,← ua cs 0 16 7,← ua cs (0+16) 4 3,← ua cs (0+16+4) 1 2,← ua cs (0+16+4+1) 1 1,e0,e1,e2,e3,e4];rfl
end
end Sx
end
end Go.Proofs.YtiaibpcaloigkaaGreatDoor
namespace Go.Proofs.YtiaibpcaloigkaaGreatDoor.Ou
section
open Go Go.RowKit Go.BigFrame Go.ChangeShapes Go.WideShapes Go.ChangeAt Sx
theorem own:ownKnob Tryz.prog.godebug=none:=by kernel_rfl
theorem ahP:laidOutB Tryz.prog=true:=by kernel_rfl
theorem abF:Tryz.prog.readableRec 29=true:=by kernel_rfl
theorem ft:Tryz.prog.cellTypes Tryz.prog.depth 29=some (List.replicate 20 22++[3,3,27]):=by kernel_rfl
abbrev iL:List (String × DataW Unit):=[("errors.errorType",Rows.laid_errors_errorType)]
theorem et:Tryz.prog.globalNamed "errors.errorType"=some 0:=by kernel_rfl
theorem rt:(Tryz.prog.cutTypes.find? (·.1 == "internal/reflectlite.rtype")).map (·.2)=some 341:=by kernel_rfl
theorem agf:((List.range Tryz.prog.types.size).filter fun t=>Tryz.prog.rowNamed t [101,114,114,111,114])=[174]:=by kernel_rfl
theorem qq {W:World} (h:laidMetH Tryz.prog iL W):uY W:=by
 have h' : laidMet Tryz.prog [] W∧handlesMet Tryz.prog iL W:=h;obtain⟨name,u,ty,e1,e2,e3,e4,e5⟩:=h'.2 _ (List.mem_singleton.2 rfl);have en:name=[101,114,114,111,114]:=(Option.some.inj e1).symm;subst en;obtain rfl:=Option.some.inj (rt.symm.trans e2);have hm:ty∈(List.range Tryz.prog.types.size).filter fun t=>Tryz.prog.rowNamed t [101,114,114,111,114]:=List.mem_filter.2 ⟨List.mem_range.2 e3,e4⟩;rw[agf] at hm;obtain rfl:=List.mem_singleton.1 hm;have hh:typeHandle Tryz.prog 174=.pointer (some ⟨3,174,none⟩):=by kernel_rfl
 rw[hh] at e5;have hc:W.cell? ⟨0,0,none⟩=some aeK:=by simpa using World.var?_cell et e5 0
 intro i v hv
 match i,hv with
 | 0,hv=>rw[show v=aeK from (Option.some.inj hv).symm];exact hc
set_option maxRecDepth 100000 in
theorem abg (os:Os) (args:Array Value):laidMetH Tryz.prog iL ((World.doorLaid Tryz.prog 24 os).forCall (fun _ _=>0) ⟨#[],args,[]⟩).memory :=
 laidMetH_of_parts (laidMet_nil _ _) (by kernel_rfl)
end
end Go.Proofs.YtiaibpcaloigkaaGreatDoor.Ou
namespace Go.Proofs.YtiaibpcaloigkaaGreatDoor
section
open Go Go.RowKit Go.BigFrame Go.WideShapes
namespace Sx
section
variable {H:Type} {enc:TypeId × Value→H} {w:World} {base:Nat} {spare:Nat→Bool} {held:Bool} {fuel:Nat} {cs:LV} {x:DataW H × List MemPlace}
theorem agP (h:DataW.trod enc Tryz.prog w base spare held fuel 65 cs=some x):∃ pt l c,cs=[.slice pt (List.length l) c]∧(∀ y∈l,y<4294967296)∧RdE jX (.slice pt l.length c) l w :=
 fp (f:=jX) (ok:=fun y=>y<4294967296) Tryz.underlying65 agW Dtt (fun _=>rfl) (fun _ _ _ h=>dE Tryz.underlying79 h) h
end
end Sx
end
end Go.Proofs.YtiaibpcaloigkaaGreatDoor
namespace Go.Proofs.YtiaibpcaloigkaaGreatDoor.Ou
section
open Go Go.RowKit Go.BigFrame Go.ChangeShapes Go.WideShapes Go.ChangeAt Sx
theorem aal:Tryz.prog.readableRec 65=true:=by kernel_rfl
end
end Go.Proofs.YtiaibpcaloigkaaGreatDoor.Ou
