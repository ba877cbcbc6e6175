/- Part 51 of the proof. -/
import Derived.Test.YtiaibpcaloigkaaGreatDoorC50
import Derived.Test.YtiaibpcaloigkaaGreatDoorCards
import Derived.Test.YtiaibpcaloigkaaGreatDoorTie
import Derived.ProofKit
import Derived.LaidMore
import Derived.Stop.Joined
import Derived.SevenTiedAt
import Derived.ChangeArms
import Derived.OpenShut
import Derived.DataReads
import Derived.WideShapes
set_option linter.unusedSimpArgs false
set_option linter.unusedVariables false
set_option maxHeartbeats 8000000
namespace Go.Proofs.YtiaibpcaloigkaaGreatDoor
section
open Go Go.RowKit Go.BigFrame Go.WideShapes
namespace Sx
theorem vt (cs:LV) (a b c:Nat):cut cs a b++cut cs (a+b) c=cut cs a (b+c):=by
 unfold cut;rw[List.take_add,List.drop_drop]
section
variable {H:Type} {enc:TypeId × Value→H} {P:Program} {w:World} {base:Nat} {spare:Nat→Bool} {held:Bool} {fuel:Nat} {cs:LV} {x:DataW H × List MemPlace}
theorem tS {t:TypeId} {fs:Array Field} {m:Nat} (ht:P.underlying t=some (.struct fs)) (hm:P.cellsOf t=m) (h:DataW.trod enc P w base spare held fuel t cs=some x):cs.length=m:=by
 obtain⟨xs,n,_,_,hl,_⟩:=DataW.trod_struct ht h;rw[hl,hm]
theorem yD {t:TypeId} {fs:Array Field} (ht:P.underlying t=some (.struct fs)) (h:DataW.trod enc P w base spare held fuel t cs=some x) {i off ty sz:Nat} {f:Field} (hf:fs[i]?=some f) (ho:f.offset=off) (hty:f.type=ty) (hs:P.cellsOf ty=sz) :
  ∃ n y,DataW.trod enc P w base spare held n ty (cut cs off sz)=some y:=by
 obtain⟨xs,n,_,_,_,hlen,hp⟩:=DataW.trod_struct ht h;have h1:=hp i f hf;subst ho hty hs;have hi:i<xs.length:=by
  rw[hlen]
  rcases Nat.lt_or_ge i fs.size with h2|h2
  ·exact h2
  ·rw[Array.getElem?_eq_none h2] at hf;cases hf
 rw[List.getElem?_eq_getElem hi] at h1;exact⟨n,_,h1⟩
theorem uV {t:TypeId} (ht:P.underlying t=some (.int .u64)) (h:DataW.trod enc P w base spare held fuel t cs=some x):∃ n:Nat,n<18446744073709551616∧cs=[.int .u64 (n:Int)]:=by
 obtain⟨n,rfl,_,hw⟩:=DataW.trod_int ht h;simp only[Lit.wf,IntKind.min,IntKind.max,IntKind.signed,IntKind.bits,Bool.and_eq_true,decide_eq_true_eq] at hw;have h1:(0:Int)≤n:=by simpa using hw.1
 have h2:n≤18446744073709551615:=by simpa using hw.2
 exact⟨n.toNat,by omega,by rw[Int.toNat_of_nonneg h1]⟩
theorem jN {t:TypeId} (ht:P.underlying t=some (.int .u8)) (h:DataW.trod enc P w base spare held fuel t cs=some x):∃ n:Nat,n<256∧cs=[.int .u8 (n:Int)]:=by
 obtain⟨n,rfl,_,hw⟩:=DataW.trod_int ht h;simp only[Lit.wf,IntKind.min,IntKind.max,IntKind.signed,IntKind.bits,Bool.and_eq_true,decide_eq_true_eq] at hw;have h1:(0:Int)≤n:=by simpa using hw.1
 have h2:n≤255:=by simpa using hw.2
 exact⟨n.toNat,by omega,by rw[Int.toNat_of_nonneg h1]⟩
theorem ln {t:TypeId} (ht:P.underlying t=some (.int .i64)) (h:DataW.trod enc P w base spare held fuel t cs=some x):∃ n:Int,-9223372036854775808≤n∧n≤9223372036854775807∧cs=[.int .i64 n]:=by
 obtain⟨n,rfl,_,hw⟩:=DataW.trod_int ht h;simp only[Lit.wf,IntKind.min,IntKind.max,IntKind.signed,IntKind.bits,Bool.and_eq_true,decide_eq_true_eq] at hw;exact⟨n,by simpa using hw.1,by simpa using hw.2,rfl⟩
theorem dM {t e:TypeId} (ht:P.underlying t=some (.array 4 e)) (he:P.underlying e=some (.int .u64)) (h4:P.cellsOf t=4) (h1:P.cellsOf e=1) (h:DataW.trod enc P w base spare held fuel t cs=some x):∃ n:Nat,n<zd∧cs=zc n:=by
 obtain⟨xs,m,_,_,hl,hlen,hp⟩:=DataW.trod_array ht h;rw[h4] at hl
 match cs,hl with
 | [c0,c1,c2,c3],_ =>
  have k:∀ (i:Nat),i<4→∃ y,DataW.trod enc P w base spare held m e (([c0,c1,c2,c3].drop (i*P.cellsOf e)).take (P.cellsOf e))=some y:=fun i hi=>by
   have h2:=hp i hi;rw[List.getElem?_eq_getElem Om] at h2;exact⟨_,h2⟩
  rw[h1] at k;obtain⟨y0,k0⟩:=k 0 Om;obtain⟨y1,k1⟩:=k 1 Om;obtain⟨y2,k2⟩:=k 2 Om;obtain⟨y3,k3⟩:=k 3 Om;obtain⟨a0,b0,e0⟩:=uV he k0;obtain⟨a1,b1,e1⟩:=uV he k1;obtain⟨a2,b2,e2⟩:=uV he k2;obtain⟨a3,b3,e3⟩:=uV he k3;simp at e0 e1 e2 e3;subst e0 e1 e2 e3;obtain⟨w0,w1,w2,w3⟩:=kG b0 b1 b2 b3;exact⟨td a0 a1 a2 a3,kY b0 b1 b2 b3,by rw[zc,w0,w1,w2,w3]⟩
theorem Seg.app {b o:Nat} {A B:LV} (hA:Seg w b o A) (hB:Seg w b (o+A.length) B):Seg w b o (A++B):=by
 intro i v hv
 rcases Nat.lt_or_ge i A.length with h|h
 ·rw[List.getElem?_append_left h] at hv;exact hA i v hv
 ·rw[List.getElem?_append_right h] at hv;have:=hB _ v hv;rwa [show o+A.length+(i - A.length)=o+i by omega] at this
theorem seg_of_cells {b o n:Nat} {l:LV} (h:w.cells? base ⟨b,o,none⟩ n=some l):Seg w b o l:=by
 obtain⟨_,hl,hc⟩:=World.cells?_some h;intro i v hv;have hi:i<n:=by
  rw[← hl]
  rcases Nat.lt_or_ge i l.length with h1|h1
  ·exact h1
  ·rw[List.getElem?_eq_none h1] at hv;cases hv
 have:=hc i hi;rw[vU] at this;rw[this,hv]
theorem mN {α:Type} {f:α→List Value} {ok:α→Prop} {t e:TypeId} {k:Nat} (ht:P.underlying t=some (.slice e)) (hk:P.cellsOf e=k) (hf:∀ a,(f a).length=k)
  (hE:∀ (fuel:Nat) (cs:LV) (x:DataW H × List MemPlace),DataW.trod enc P w base spare held fuel e cs=some x→∃ a,ok a∧cs=f a)
  (h:DataW.trod enc P w base spare held fuel t cs=some x) (hs:∀ a l c,cs=[.slice (some a) l c]→a.spot=none) :
  ∃ pt xs c,cs=[.slice pt xs.length c]∧(∀ a∈xs,ok a)∧RdF f (.slice pt xs.length c) xs w:=by
 rcases DataW.trod_slice ht h with ⟨rfl,_⟩|⟨a,len,cap,elems,rest,n,_,rfl,_,_,_,_,hlen,hel,_⟩
 ·exact⟨none,[],0,rfl,by simp,none,0,rfl,.inl ⟨rfl,rfl⟩⟩
 have ha:=hs a len cap rfl;obtain⟨b,o,sp⟩:=a;simp only at ha;subst ha;have key:∀ m,m≤len→∃ xs:List α,xs.length=m∧(∀ a∈xs,ok a)∧Seg w b o (xs.flatMap f):=by
  intro m
  induction m with
  | zero=>exact fun _=>⟨[],rfl,by simp,fun i v hv=>by simp at hv⟩
  | succ m ih =>
   intro hm;obtain⟨xs,h1,h2,h3⟩:=ih Om;have h4:=hel m Om;rw[List.getElem?_eq_getElem Om,hk,vU] at h4;cases h5:w.cells? base ⟨b,o+m*k,none⟩ k with
   | none=>rw[h5] at h4;cases h4
   | some l =>
    rw[h5] at h4;obtain⟨y,hy,rfl⟩:=hE n l _ h4;refine⟨xs++[y],by simp[h1],fun a ha=>?_,?_⟩
    ·rcases List.mem_append.1 ha with ha|ha
     ·exact h2 a ha
     ·obtain rfl:=List.mem_singleton.1 ha;exact hy
    ·rw[List.flatMap_append];refine h3.app ?_;rw[zy hf,h1];simpa using seg_of_cells h5
 obtain⟨xs,rfl,h2,h3⟩:=key len (Nat.le_refl _);exact⟨some ⟨b,o,none⟩,xs,cap,rfl,h2,_,cap,rfl,.inr ⟨b,o,rfl,h3⟩⟩
theorem k9 {r:Reach} {b0:Nat} {t u e:TypeId} {cs:Array Value} {ts:List TypeId} {fs:Array Field} {i:Nat} (ht:P.underlying t=some (.struct fs)) (hts:P.cellTypes P.depth t=some ts) (hn:ts.length=P.cellsOf t)
  (hv:Value.okWide P w r b0 t (.agg cs)) (hu:ts[i]?=some u) (hue:P.underlying u=some (.slice e)):∀ a l c,cs[i]?=some (.slice (some a) l c)→a.spot=none:=by
 intro a l c hc;unfold Value.okWide at hv;rw[ht] at hv;obtain⟨cs',h1,h2,ts',h3,_,h4⟩:=hv;cases h1;rw[hts] at h3;cases h3;obtain⟨u',h5,h6⟩:=h4 i _ hc;have hi:i<ts.length:=by
  rcases Nat.lt_or_ge i ts.length with h|h
  ·exact h
  ·rw[List.getElem?_eq_none h] at hu;cases hu
 rw[Nat.mod_eq_of_lt hi,hu] at h5;cases h5;unfold Cell.okWide Cell.ok at h6;rw[hue] at h6;exact h6.2.2.2.1
end
section
variable {H:Type} {enc:TypeId × Value→H} {w:World} {base:Nat} {spare:Nat→Bool} {held:Bool} {fuel:Nat} {cs:LV} {x:DataW H × List MemPlace}
theorem af7:Tryz.prog.cellsOf 22=1:=Kr
theorem aie:Tryz.prog.cellsOf 5=1:=Kr
theorem agW:Tryz.prog.cellsOf 3=1:=Kr
theorem mZ:Tryz.prog.cellsOf 24=4:=Kr
theorem bk:Tryz.prog.cellsOf 26=16:=Kr
theorem je (h:DataW.trod enc Tryz.prog w base spare held fuel 24 cs=some x):∃ n:Nat,n<zd∧cs=zc n:=dM Tryz.underlying24 Tryz.underlying22 mZ af7 h
theorem adD (h:DataW.trod enc Tryz.prog w base spare held fuel 26 cs=some x):∃ p q g u,p<zd∧q<zd∧g<zd∧u<zd∧cs=yu p q g u:=by
 have hl:=tS Tryz.underlying26 bk h;obtain⟨_,_,h0⟩:=yD Tryz.underlying26 h (i:=0) (off:=0) (ty:=24) rfl rfl rfl mZ;obtain⟨_,_,h1⟩:=yD Tryz.underlying26 h (i:=1) (off:=4) (ty:=24) rfl rfl rfl mZ;obtain⟨_,_,h2⟩:=yD Tryz.underlying26 h (i:=2) (off:=8) (ty:=24) rfl rfl rfl mZ;obtain⟨_,_,h3⟩:=yD Tryz.underlying26 h (i:=3) (off:=12) (ty:=24) rfl rfl rfl mZ;obtain⟨a,ha,e0⟩:=je h0;obtain⟨b,hb,e1⟩:=je h1;obtain⟨c,hc,e2⟩:=je h2;obtain⟨d,hd,e3⟩:=je h3;refine⟨a,b,c,d,ha,hb,hc,hd,?_⟩;rw[← ye hl,← vt cs 0 4 12,← vt cs (0+4) 4 8,← vt cs (0+4+4) 4 4,e0,e1,e2,e3];rfl
theorem afb {i:Nat} {v:Value} (h:cut cs i 1=[v]):cs[i]?=some v:=by
 have:=yI (j:=0) (v:=v) h rfl;rwa [Nat.add_zero] at this
theorem aJ {P:Program} {t:TypeId} (ht:P.underlying t=some (.int .u32)) (h:DataW.trod enc P w base spare held fuel t cs=some x):∃ n:Nat,n<4294967296∧cs=[.int .u32 (n:Int)]:=by
 obtain⟨n,rfl,_,hw⟩:=DataW.trod_int ht h;simp only[Lit.wf,IntKind.min,IntKind.max,IntKind.signed,IntKind.bits,Bool.and_eq_true,decide_eq_true_eq] at hw;have h1:(0:Int)≤n:=by simpa using hw.1
 have h2:n≤4294967295:=by simpa using hw.2
 exact⟨n.toNat,by omega,by rw[Int.toNat_of_nonneg h1]⟩
theorem pj {P:Program} {α:Type} {f:α→List Value} {ok:α→Prop} {t e:TypeId} {k:Nat} (ht:P.underlying t=some (.slice e)) (hk:P.cellsOf e=k) (hk0:0<k) (hf:∀ a,(f a).length=k)
  (hE:∀ (fuel:Nat) (cs:LV) (x:DataW H × List MemPlace),DataW.trod enc P w base spare held fuel e cs=some x→∃ a,ok a∧cs=f a)
  (h:DataW.trod enc P w base spare held fuel t cs=some x):∃ pt xs c,cs=[.slice pt (List.length xs) c]∧(∀ a∈xs,ok a)∧RdE f (.slice pt xs.length c) xs w:=by
 rcases DataW.trod_slice ht (id h) with ⟨rfl,_⟩|⟨a,len,cap,elems,rest,n,_,rfl,_,_,_,_,hlen,hel,_⟩
 ·exact⟨none,[],0,rfl,by simp,none,0,rfl,.inl rfl⟩
 rcases Nat.eq_zero_or_pos len with h0|h0
 ·subst h0;exact⟨some a,[],cap,rfl,by simp,some a,cap,rfl,.inl rfl⟩
 ·have ha:a.spot=none:=by
   have h4:=hel 0 h0;rw[List.getElem?_eq_getElem Om,hk] at h4;cases h5:w.cells? base (a.add (0*k)) k with
   | none=>rw[h5] at h4;cases h4
   | some l =>
    obtain⟨_,hl,hc⟩:=World.cells?_some h5;have h6:=hc 0 hk0;rw[List.getElem?_eq_getElem Om] at h6;have h7:=World.cell?_spot h6;simpa [Addr.add] using h7
  obtain⟨pt,xs,c,e,h1,h2⟩:=mN ht hk hf hE h (fun a' l c e=>by cases e;exact ha);exact⟨pt,xs,c,e,h1,h2.toE⟩
theorem jQ:Tryz.prog.cellsOf 103=8:=Kr
theorem aad:Tryz.prog.cellsOf 27=1:=Kr
theorem acS:Tryz.prog.cellsOf 29=23:=Kr
theorem ahL:Tryz.prog.cellsOf 79=1:=Kr
theorem agx:Tryz.prog.cellsOf 65=1:=Kr
theorem abI (h:DataW.trod enc Tryz.prog w base spare held fuel 103 cs=some x):∃ k:Nat × Nat,(k.1<zd∧k.2<zd)∧cs=yx k:=by
 have hl:=tS Tryz.underlying103 jQ h;obtain⟨_,_,h0⟩:=yD Tryz.underlying103 h (i:=0) (off:=0) (ty:=24) rfl rfl rfl mZ;obtain⟨_,_,h1⟩:=yD Tryz.underlying103 h (i:=1) (off:=4) (ty:=24) rfl rfl rfl mZ;obtain⟨a,ha,e0⟩:=je h0;obtain⟨b,hb,e1⟩:=je h1;refine⟨(a,b),⟨ha,hb⟩,?_⟩;rw[← ye hl,← vt cs 0 4 4,e0,e1];rfl
theorem ahc (h:DataW.trod enc Tryz.prog w base spare held fuel 29 cs=some x) (hs:∀ a l c,cs[22]?=some (.slice (some a) l c)→a.spot=none) :
  ∃ p q g u a f sec pt ks c,(p<zd∧q<zd∧g<zd∧u<zd∧a<zd)∧(-9223372036854775808≤f∧f≤9223372036854775807∧-9223372036854775808≤sec∧sec≤9223372036854775807)∧zV ks∧cs=csC p q g u a f sec (.slice pt (List.length ks) c)∧RdF yx (.slice pt ks.length c) ks w:=by
 have hl:=tS Tryz.underlying29 acS h;obtain⟨_,_,h0⟩:=yD Tryz.underlying29 h (i:=0) (off:=0) (ty:=26) rfl rfl rfl bk;obtain⟨_,_,h1⟩:=yD Tryz.underlying29 h (i:=1) (off:=16) (ty:=24) rfl rfl rfl mZ;obtain⟨_,_,h2⟩:=yD Tryz.underlying29 h (i:=2) (off:=20) (ty:=3) rfl rfl rfl agW;obtain⟨_,_,h3⟩:=yD Tryz.underlying29 h (i:=3) (off:=21) (ty:=3) rfl rfl rfl agW;obtain⟨_,_,h4⟩:=yD Tryz.underlying29 h (i:=4) (off:=22) (ty:=27) rfl rfl rfl aad;obtain⟨p,q,g,u,hp,hq,hg,hu,e0⟩:=adD h0;obtain⟨a,ha,e1⟩:=je h1;obtain⟨f,hf1,hf2,e2⟩:=ln Tryz.underlying3 h2;obtain⟨sec,hs1,hs2,e3⟩:=ln Tryz.underlying3 h3;obtain⟨pt,ks,c,e4,hN,hR⟩:=mN (f:=yx) (ok:=fun k=>k.1<zd∧k.2<zd) Tryz.underlying27 jQ vF (fun _ _ _ h=>abI h) h4 (fun a l c e=>hs a l c (afb e));refine⟨p,q,g,u,a,f,sec,pt,ks,c,⟨hp,hq,hg,hu,ha⟩,⟨hf1,hf2,hs1,hs2⟩,hN,?_,hR⟩;rw[← ye hl,← vt cs 0 16 7,← vt cs (0+16) 4 3,← vt cs (0+16+4) 1 2,← vt cs (0+16+4+1) 1 1,e0,e1,e2,e3,e4];rfl
theorem ag9:Tryz.prog.cellsOf 32=3:=Kr
theorem ae8:Tryz.prog.cellsOf 30=1:=Kr
theorem afP (h:DataW.trod enc Tryz.prog w base spare held fuel 32 cs=some x) :
  ∃ ep pt PP c many,ep<18446744073709551616∧many<256∧(∀ y∈PP,(∀ v∈Rr.xs y,v<4294967296)∧RdE fN (.slice y.pt y.xs.length y.c) y.xs w)∧cs=mxC ep (.slice pt (List.length PP) c) many∧RdE rrC (.slice pt PP.length c) PP w:=by
 have hl:=tS Tryz.underlying32 ag9 h;obtain⟨_,_,h0⟩:=yD Tryz.underlying32 h (i:=0) (off:=0) (ty:=22) rfl rfl rfl af7;obtain⟨_,_,h1⟩:=yD Tryz.underlying32 h (i:=1) (off:=1) (ty:=30) rfl rfl rfl ae8;obtain⟨_,_,h2⟩:=yD Tryz.underlying32 h (i:=2) (off:=2) (ty:=5) rfl rfl rfl aie;obtain⟨ep,hep,e0⟩:=uV Tryz.underlying22 h0
 obtain⟨pt,PP,c,e1,hP,hR⟩:=pj (f:=rrC) (ok:=fun y=>(∀ v∈y.xs,v<4294967296)∧RdE fN (.slice y.pt y.xs.length y.c) y.xs w) Tryz.underlying30 agx Dt (fun _=>rfl) (fun _ _ _ h=>by
  obtain⟨pq,xs,cq,e,h3,h4⟩:=pj (f:=fN) (ok:=fun y=>y<4294967296) Tryz.underlying65 ahL Dt (fun _=>rfl) (fun _ _ _ h=>aJ Tryz.underlying79 h) h;exact⟨⟨pq,xs,cq⟩,⟨h3,h4⟩,e⟩) h1
 obtain⟨many,hm,e2⟩:=jN Tryz.underlying5 h2;refine⟨ep,pt,PP,c,many,hep,hm,hP,?_,hR⟩;rw[← ye hl,← vt cs 0 1 2,← vt cs (0+1) 1 1,e0,e1,e2];rfl
end
end Sx
end
end Go.Proofs.YtiaibpcaloigkaaGreatDoor
namespace Go.Proofs.YtiaibpcaloigkaaGreatDoor.Ou
section
open Go Go.RowKit Go.BigFrame Go.ChangeShapes Go.WideShapes Go.ChangeAt Sx
theorem own:ownKnob Tryz.prog.godebug=none:=by kernel_rfl
theorem ahp:laidOutB Tryz.prog=true:=by kernel_rfl
theorem abT:Tryz.prog.readableRec 29=true:=by kernel_rfl
theorem aaL:Tryz.prog.readableRec 32=true:=by kernel_rfl
theorem de:Tryz.prog.readableRec 33=true:=by kernel_rfl
theorem gu:Tryz.prog.cellTypes Tryz.prog.depth 29=some (List.replicate 20 22++[3,3,27]):=by kernel_rfl
abbrev fp:List (String × DataW Unit):=[("errors.errorType",Rows.laid_errors_errorType)]
theorem et:Tryz.prog.globalNamed "errors.errorType"=some 0:=by kernel_rfl
theorem rt:(Tryz.prog.cutTypes.find? (·.1 == "internal/reflectlite.rtype")).map (·.2)=some 341:=by kernel_rfl
theorem ag7:((List.range Tryz.prog.types.size).filter fun t=>Tryz.prog.rowNamed t [101,114,114,111,114])=[174]:=by kernel_rfl
theorem qy {W:World} (h:laidMetH Tryz.prog fp W):o8 W:=by
 have h' : laidMet Tryz.prog [] W∧handlesMet Tryz.prog fp W:=h;obtain⟨name,u,ty,e1,e2,e3,e4,e5⟩:=h'.2 _ (List.mem_singleton.2 rfl);have en:name=[101,114,114,111,114]:=(Option.some.inj e1).symm;subst en;obtain rfl:=Option.some.inj (rt.symm.trans e2);have hm:ty∈(List.range Tryz.prog.types.size).filter fun t=>Tryz.prog.rowNamed t [101,114,114,111,114]:=List.mem_filter.2 ⟨List.mem_range.2 e3,e4⟩;rw[ag7] at hm;obtain rfl:=List.mem_singleton.1 hm;have hh:typeHandle Tryz.prog 174=.pointer (some ⟨3,174,none⟩):=by kernel_rfl
 rw[hh] at e5;have hc:W.cell? ⟨0,0,none⟩=some adS:=by simpa using World.var?_cell et e5 0
 intro i v hv
 match i,hv with
 | 0,hv=>rw[show v=adS from (Option.some.inj hv).symm];exact hc
set_option maxRecDepth 100000 in
theorem aap (os:Os) (args:Array Value):laidMetH Tryz.prog fp ((World.doorLaid Tryz.prog 24 os).forCall (fun _ _=>0) ⟨#[],args,[]⟩).memory :=
 laidMetH_of_parts (laidMet_nil _ _) (by kernel_rfl)
end
end Go.Proofs.YtiaibpcaloigkaaGreatDoor.Ou
namespace Go.Proofs.YtiaibpcaloigkaaGreatDoor
section
open Go Go.RowKit Go.BigFrame
namespace Sx
section
variable {P:Program} {w0:World} {gs:LN} {n:Nat} {ops:List Oper} {Q:Exit→Act→World→Prop} {K:List (Nat × Value)} {rest:List Oper}
theorem WO.drop {R M:List Ent} (X:List Ent) (k:WO P w0 gs n ops Q K (X++M) rest):WO P w0 gs n ops Q K (X++(R++M)) rest:=fun a w h1 h2 h3 h4=>k a w h1 h2 h3 (h4.sub (List.Sublist.append_left (List.sublist_append_right R M) X))
end
attribute [local irreducible] wd DQ WO WC WX hOf
theorem Seg.preO {w:World} {b o:Nat} {A B:LV} (h:Seg w b o (A++B)):Seg w b o A:=fun i v hv=>h i v (by rw[List.getElem?_append_left (List.getElem?_eq_some_iff.1 hv).1];exact hv)
structure Bw where
 g:Nat
 c:Nat
 xs:List Nat
 r:List Value
def bwC (z:Bw):List Value:=[AX z.g z.xs.length z.c]
theorem aD (z:Bw):(bwC z).length=1:=rfl
def bwE (z:Bw):Ent:=⟨z.g,5,byC z.xs++z.r⟩
def bwB (Z:List Bw):List Ent:=Z.reverse.map bwE
theorem iT (Z:List Bw) (z:Bw):bwB (Z++[z])=bwE z::bwB Z:=by unfold bwB;rw[List.reverse_append];rfl
def QOk (Z:List Bw):Prop:=∀ z∈Z,(z.xs.length≤z.c∧z.c<9223372036854775808)∧z.xs.length≤32∧∀ b∈z.xs,b<256
def aid (Z:List Bw):Prop:=∀ z∈Z,z.xs.length≤z.c∧z.c<9223372036854775808
theorem oF {w0 w:World} {gs:LN} {L:List Ent} (hm:Mr w0 gs L w):∀ (Z:List Bw),aid Z→(∀ z∈Z,bwE z∈L)→z7 (Z.flatMap bwC) (Z.map Bw.xs) w
 | [],_,_=>z7.nil
 | z::Z,hk,hl=>z7.cons (RdP.own (t:=5) (r:=z.r) hm (Hs.of_mem2 (hl z (List.mem_cons_self ..))) (hk z (List.mem_cons_self ..)).1 (hk z (List.mem_cons_self ..)).2) (oF hm Z (fun y hy=>hk y (List.mem_cons_of_mem _ hy)) (fun y hy=>hl y (List.mem_cons_of_mem _ hy)))
theorem am {Z:List Bw} {z:Bw} (h:z∈Z):bwE z∈bwB Z:=List.mem_map.2 ⟨z,List.mem_reverse.2 h,rfl⟩
theorem iB (X:LN) (b o c:Nat) (hX:X.length=32):Fn Tryz.prog 43 [.slice (some ⟨b,o,none⟩) 32 c] (fun w=>Seg w b o (byC X))
  (Ex (fun s=>AX (s 0) 32 (s 1)) (fun s=>[⟨s 0,5,byC X++mkz (s 1 - 32) [.int .u8 0]⟩]) (fun s=>32≤s 1∧s 1<9223372036854775808)):=by
 have hl:(byC X).length=32*1:=by rw[zh,hX]
 refine Fn.enter Tryz.func43 rfl rfl rfl ?_;intro w hw
 repeat (first|refine WO.does (jr (e:=5) Tryz.underlying126 rfl rfl) ?_|refine Tj ?_|intro _|(refine WO.makes (zi (cs:=[]) rfl Dt rfl) ?_;intro _)|refine Tc ?_|exact Tz)
 refine WO.appKZ (z:=[.int .u8 0]) (m:=32) (l:=32) rfl rfl rfl (xs:=[]) (ys:=byC X) rfl (Nat.le_refl _) Pk.a (Rds.seg hw (Nat.le_refl _) Sm (m:=32) (by rw[Nat.sub_self];exact ye (by rw[zh,hX]))) hl (yB X) (Nat.zero_add _) Om Dt Om Dt Dt (fun g1 c1 a2 a3=>?_)
 repeat (first|refine Tk ?_|intro _|exact Tz)
 exact WX.ret1 rfl (zU rfl) [⟨g1,5,byC X++mkz (c1 - 32) [.int .u8 0]⟩] (by repeat (first|exact Lle.nil|refine Lle.c ?_)) ⟨fun j=>match j with|0=>g1|_=>c1,rfl,rfl,a3,a2⟩
abbrev nwV (z:Nw):Value:=AX z.g z.xs.length z.c
theorem cm {f:Nat} [Cal Tryz.prog f] (caps:LV) (Pb:Nw→Bool) (xs:List Nw) (b o c:Nat) (R:World→Prop) (hst:zM R) (hn:xs.length≤1099511627776)
  (hf:∀ x∈xs,Fn Tryz.prog f ([nwV x]++caps) R (Is (.bool (Pb x)))) :
  Fn Tryz.prog 101 [.slice (some ⟨b,o,none⟩) xs.length c,.func (.func f) #[] caps.toArray] (fun w=>Seg w b o (xs.flatMap nwC)∧R w) (Is (.int .i64 (ixI Pb xs))):=by
 refine Fn.enter Tryz.func101 rfl rfl rfl ?_;intro w hw;obtain⟨hw,hwR⟩:=hw
 repeat (first|refine Tk ?_|intro _|exact Tz)
 refine WC.loopI (σ:=Nat) (fun i=>i≤xs.length∧∀ j,j<i→∀ x,xs[j]?=some x→Pb x=false) (fun i=>[(0,.slice (some ⟨b,o,none⟩) xs.length c),(1,.func (.func f) #[] caps.toArray),(7,.int .i64 (xs.length:Int)),(8,.int .i64 (i:Int))]) (fun _=>[]) (fun i=>xs.length - i) 0 (fun i hi=>?_) ⟨Nat.zero_le _,fun j hj=>by omega⟩
 try dsimp only at hi ⊢
 obtain⟨hi,h0⟩:=hi
 by_cases hlt:i<xs.length
 ·obtain⟨x,hx⟩ : ∃ x,xs[i]?=some x:=⟨_,List.getElem?_eq_getElem hlt⟩;have hcx:(xs.flatMap nwC)[o+i*1 - o]?=some (nwV x):=by rw[Nat.add_sub_cancel_left];exact yI (j:=0) (zB (f:=nwC) (k:=1) sc hx) rfl
  have hcall:=hf x (List.mem_of_getElem? hx);cases hp:Pb x with
  | true =>
   rw[iP Pb h0 hx hp];rw[hp] at hcall
   repeat (first|refine Tk ?_|intro _|exact Tz)
   refine WC.dT rfl Om ?_
   repeat (first|refine Tj ?_|intro _|refine WO.does (zb (o':=o+i*1) rfl rfl hlt rfl) ?_|refine WO.does (zn (v:=nwV x) (hs:=hw) (hle:=Nat.le_add_right _ _) (hc:=hcx)) ?_|refine WO.acallV (hc:=hcall) (hR:=fun w' hm=>hst _ _ hwR hm.mod.below) (k:=?_)|refine Tc ?_|exact Tz)
  | false =>
   rw[hp] at hcall
   repeat (first|refine Tk ?_|intro _|exact Tz)
   refine WC.dT rfl Om ?_
   repeat (first|refine Tj ?_|intro _|refine WO.does (zb (o':=o+i*1) rfl rfl hlt rfl) ?_|refine WO.does (zn (v:=nwV x) (hs:=hw) (hle:=Nat.le_add_right _ _) (hc:=hcx)) ?_|refine WO.acallV (hc:=hcall) (hR:=fun w' hm=>hst _ _ hwR hm.mod.below) (k:=?_)|refine Tc ?_|exact Tz)
   refine WX.metI (i+1) (hs:=⟨⟨by show i+1≤xs.length;omega,fun j hj y hy=>by
    rcases Nat.lt_or_ge j i with h|h
    ·exact h0 j h y hy
    ·have:j=i:=by omega
     subst this;rw[hx] at hy;cases hy;exact hp⟩,by show xs.length - (i+1)<xs.length - i;omega⟩)
 ·have hi2:i=xs.length:=by omega
  rw[sX Pb (by rw[← hi2];exact h0)]
  repeat (first|refine Tk ?_|intro _|exact Tz)
  refine WC.dF rfl Om ?_
  repeat (first|refine Tk ?_|intro _|exact Tz)
theorem mm {f:Nat} [Cal Tryz.prog f] (caps:LV) (Pb:Nw→Bool) (xs:List Nw) (b o c:Nat) (R:World→Prop) (hst:zM R) (hn:xs.length≤1099511627776)
  (hf:∀ x∈xs,Fn Tryz.prog f ([nwV x]++caps) R (Is (.bool (Pb x)))) :
  Fn Tryz.prog 39 [.slice (some ⟨b,o,none⟩) xs.length c,.func (.func f) #[] caps.toArray] (fun w=>Seg w b o (xs.flatMap nwC)∧R w) (Is (.bool (xs.any Pb))):=by
 have hI:=cm caps Pb xs b o c R hst hn hf;rw[← nj];generalize ixI Pb xs=r at *;refine Fn.enter Tryz.func39 rfl rfl rfl ?_;intro w hw;obtain⟨hw,hwR⟩:=hw
 repeat (first|refine Tj ?_|intro _|refine WO.acallR (hc:=hI) (hR:=fun w' hm=>⟨hw.mod hm.mod Sm,hst _ _ hwR hm.mod.below⟩) (k:=?_)|refine Tc ?_|exact Tz)
theorem afT (p q g h:Nat) (f:Int) (m:Nat) (ns:Value) (z:Nw) (gS:Nat) (hz:z.xs.length=m):Fn Tryz.prog 40 ([nwV z]++[Sx.pt gS]) (fun w=>Seg w gS 0 (stC p q g h f (m:Int) ns)) (Is (.bool false)):=by
 refine Fn.enter Tryz.func40 rfl rfl rfl ?_;intro w hw
 repeat (first|refine WO.does (zn (v:=.int .i64 (m:Int)) (hs:=hw) (hle:=Nat.zero_le _) (hc:=rfl)) ?_|refine WO.does (zt rfl rfl Om) ?_|refine Tj ?_|intro _|refine Tc ?_|exact Tz)
 done
def aaf:ByteArray:=⟨#[115,101,116]⟩
def lE:ByteArray:=⟨#[118,97,108,117,101]⟩
theorem rl:∀ {Ps:List (List Nat)},(∀ X∈Ps,X.length≤32)→(yU Ps).length≤Ps.length*36
 | [],_=>by simp[yU]
 | X::Ps,h=>by
  have h1:=h X (List.mem_cons_self ..);have h2:=rl (Ps:=Ps) (fun Y hY=>h Y (List.mem_cons_of_mem _ hY));simp only[yU,List.flatMap_cons,List.length_append,List.length_cons,zm] at h2 ⊢;omega
theorem sK {s:LN} {Ps:List (List Nat)} (hs:s.length≤100) (h:∀ X∈Ps,X.length≤32) (hn:Ps.length≤1000):(yH s Ps).length≤1152921504606840000:=by
 have:=rl h;unfold yH uQ;simp only[List.length_append,zm];omega
section
variable (pH:Option Addr) (cH:Nat) (HL:List (List Nat))
theorem afV (h0:0<HL.length) (hn:HL.length≤100) (h32:∀ H∈HL,H.length=32) (hb:∀ H∈HL,∀ b∈H,b<256) :
  Fn Tryz.prog 41 [.slice pH HL.length cH] (RdF byC (.slice pH HL.length cH) HL) (Is (.agg (byC (hOf (zY aaf) HL)).toArray)):=by
 have hHof:=fun (vs:LV) (Ps:List (List Nat)) (hP) (hb) (B O C:Nat)=>fz aaf vs Ps B O C hP hb Dt;have hol:(hOf (zY aaf) HL).length=32:=yM _ _;have hsm:(yH (zY aaf) HL).length≤1152921504606840000:=sK (by rw[ym];decide) (fun X hX=>Nat.le_of_eq (h32 X hX)) Om;refine Fn.enter Tryz.func41 rfl rfl rfl ?_;intro w hw
 repeat (first|refine Tk ?_|intro _|exact Tz)
 rename_i gR
 refine WC.loopI (σ:=Nat × Nat × Nat × List Bw) (fun s=>s.1≤HL.length∧s.2.2.2.map Bw.xs=HL.take s.1∧aid s.2.2.2∧(0<s.1→s.1≤s.2.2.1∧s.2.2.1<9223372036854775808)) (fun s=>[(2,Sx.pt gR),(3,agV s.2.1 s.2.2.1 s.1 s.1),(6,.slice pH HL.length cH),(7,.int .i64 (HL.length:Int)),(8,.int .i64 (s.1:Int))])
  (fun s=>⟨gR,70,byC (List.replicate 32 0)⟩::(rwL 126 s.2.1 (s.2.2.2.flatMap bwC) (mkz (s.2.2.1 - s.1) [.slice none 0 0]) s.1++bwB s.2.2.2)) (fun s=>HL.length - s.1) (0,0,0,[]) (fun s hi=>?_) ⟨Nat.zero_le _,rfl,fun z hz=>by simp at hz,fun h=>absurd h Dt⟩
 obtain⟨i,gl,cl,Z⟩:=s;obtain⟨hi,hZ,hZk,hr⟩:=hi
 try dsimp only at hi hZ hZk hr ⊢
 have hZl:Z.length=i:=by have:=congrArg List.length hZ;rw[List.length_map,List.length_take,Nat.min_eq_left hi] at this;exact this
 have hBl:(Z.flatMap bwC).length=i*1:=by rw[zy aD,hZl]
 by_cases hlt:i<HL.length
 ·obtain⟨X,hX⟩ : ∃ X,HL[i]?=some X:=⟨_,List.getElem?_eq_getElem hlt⟩;have hXl:=h32 X (List.mem_of_getElem? hX);obtain⟨bH,oH,rfl,_,hsH⟩:=id hw |>.get hX
  have hcH:cut (HL.flatMap byC) (oH+i*32 - oH) 32=byC X:=by
   rw[Nat.add_sub_cancel_left];exact mO (k:=32) (fun x hx=>by rw[zh,h32 x hx]) hX
  have hbl:(byC X).length=32:=by rw[zh,hXl]
  have hadd2:IntKind.i64.wrap ((i:Int)+1)=((i+1:Nat):Int):=zo Om Om Om
  repeat (first|refine Tk ?_|intro _|exact Tz)
  refine WC.dT rfl Om ?_
  repeat (first|refine WO.does (zb (o':=oH+i*32) rfl rfl hlt rfl) ?_|refine WO.does (zk (vs:=byC X) (hs:=hsH) (hle:=Nat.le_add_right _ _) (hc:=hcH) (hl:=hbl)) ?_|refine Tj ?_|intro _|refine Tc ?_|exact Tz)
  repeat (first|refine Tj ?_|intro _|refine WO.stores (zz (vs:=byC X) (cs':=byC X) (hl:=hbl) (h1:=yB X) (hc:=yO (by rw[hbl];rfl)) (hle:=by rw[hbl];rfl)) ?_|refine Tc ?_|exact Tz)
  rename_i gx;have hCl:=iB X gx 0 32 hXl
  repeat (first|refine Tj ?_|intro _|refine WO.does (yL rfl) ?_|refine Tc ?_|exact Tz)
  refine WO.acallX (hc:=hCl) (hR:=fun wx hm=>Hs.sg hm) (k:=fun s hs=>?_);obtain⟨s1,s2⟩:=hs;generalize s 0=gC at *;generalize s 1=cC at *;simp only[List.cons_append,List.nil_append];have hB2:Z.flatMap bwC++[AX gC 32 cC]=(Z++[(⟨gC,cC,X,mkz (cC - 32) [.int .u8 0]⟩ : Bw)]).flatMap bwC:=by rw[List.flatMap_append];simp[bwC,hXl]
  refine WO.makes (zi (cs:=[AX gC 32 cC]) rfl Dt rfl) ?_;intro gb;refine WO.appR (z:=[.slice none 0 0]) (g:=gl) (c:=cl) (n:=i) (m:=1) (l:=i+1) (B:=Z.flatMap bwC) (ys:=[AX gC 32 cC]) (L1:=[_,_,_,_]) (L2:=bwB Z) rfl rfl rfl rfl hBl hr (Rds.own (m:=1) Hs.here rfl) rfl rfl Dt rfl Om Om Dt Dt (fun g1 c1 a1 a2=>?_);rw[hB2];simp only[List.cons_append,List.nil_append]
  repeat (first|refine WO.does (ze rfl rfl hadd2) ?_|refine Tj ?_|intro _|refine Tc ?_|exact Tz)
  exact WX.metI (i+1,g1,c1,Z++[(⟨gC,cC,X,mkz (cC - 32) [.int .u8 0]⟩ : Bw)]) (hl:=by simp only[iT,bwE,rwL,List.cons_append,List.nil_append];repeat (first|exact Lle.left'|refine Lle.c ?_|refine Lle.skp ?_)) (hs:=⟨⟨by show i+1≤HL.length;omega,by show (Z++[_]).map Bw.xs=HL.take (i+1);rw[List.map_append,hZ,List.take_add_one,hX];rfl,fun z hz=>by
   rcases List.mem_append.1 hz with h|h
   ·exact hZk z h
   ·have:z=_:=List.mem_singleton.1 h;rw[this];exact⟨by show X.length≤cC;omega,s2⟩,fun _=>⟨a2,a1⟩⟩,by show HL.length - (i+1)<HL.length - i;omega⟩)
 ·have hi2:i=HL.length:=by omega
  subst hi2;rw[List.take_length] at hZ;obtain⟨r1,r2⟩:=hr h0;have hv:(Z.flatMap bwC).length=HL.length:=by rw[hBl,Nat.mul_one]
  have hH:=hHof (Z.flatMap bwC) HL hb hsm gl 0 cl;rw[hv] at hH;rw[vp h0,yP h0];simp only[List.cons_append,List.nil_append]
  repeat (first|refine Tk ?_|intro _|exact Tz)
  refine WC.dF rfl Om ?_
  repeat (first|refine Tk ?_|intro _|exact Tz)
  refine WO.acallR (hc:=hH) (hR:=fun wx hm=>⟨Seg.preO (Hs.sg hm),by
   have h:=oF hm Z hZk (fun z hz=>by repeat (first|exact am hz|apply List.mem_cons_of_mem));rwa [hZ] at h⟩) (k:=?_)
  have hbl:(byC (hOf (zY aaf) HL)).length=32:=by rw[zh,hol]
  generalize hOf (zY aaf) HL=HS at *
  repeat (first|refine Tj ?_|intro _|refine WO.stores (zz (vs:=byC HS) (cs':=byC HS) (hl:=hbl) (h1:=yB HS) (hc:=yO (by rw[hbl];rfl)) (hle:=by rw[hbl];rfl)) ?_|refine Tc ?_|exact Tz)
  exact WX.aret1 (hr:=v7 (vs:=byC HS) (hc:=ye hbl) (hl:=hbl)) (hp:=rfl)
end
def ofV (ep:Nat) (HS:LN) (S:List (List Nat)) (i:Nat):List Nat:=hOf (zY lE) (be 8 ep::[i+1]::HS::S.map fun l=>be 32 (l.getD i 0))
def ofB (ep:Nat) (HS:LN) (S:List (List Nat)) (n:Nat):List Value:=(List.range n).flatMap fun i=>byC (ofV ep HS S i)
theorem jV (ep:Nat) (HS:LN) (S:List (List Nat)) (n:Nat):ofB ep HS S (n+1)=ofB ep HS S n++byC (ofV ep HS S n):=by unfold ofB;rw[List.range_succ,List.flatMap_append];simp
theorem ao (ep:Nat) (HS:LN) (S:List (List Nat)):∀ n,(ofB ep HS S n).length=n*(hzC).length
 | 0=>rfl
 | n+1=>by
  have:(byC (ofV ep HS S n)).length=32:=by rw[zh];exact yM _ _
  rw[jV,List.length_append,ao ep HS S n,Nat.succ_mul,this];rfl
def OfP (m:Nat) (B:LV):Value→List Ent→Prop:=fun v L=>∃ g c,v=.tuple #[AX g m m,.int .i64 0]∧L=[⟨g,70,B++mkz (c - m) hzC⟩]
section
variable (p q g h F m:Nat) (pt:Option Addr) (c:Nat) (N:LP) (ep:Nat) (pH:Option Addr) (cH:Nat) (HL:List (List Nat)) (pS:Option Addr) (cS:Nat) (Z:List Nw)
theorem ah0 (hp:p<zd) (hq:q<zd) (hg:g<zd) (hh:h<zd) (hN:zV N) (hNl:N.length≤100) (hs:yW p q g h (F:Int) (m:Int) N=true) (hF:F≤10) (hm:m≤10) (hm0:0<m)
  (h0:0<HL.length) (hn:HL.length≤100) (h32:∀ H∈HL,H.length=32) (hb:∀ H∈HL,∀ b∈H,b<256) (hZn:Z.length=HL.length) (hZm:∀ z∈Z,z.xs.length=m) :
  Fn Tryz.prog 14 [stV p q g h (F:Int) (m:Int) (.slice pt N.length c),.int .u64 (ep:Int),.slice pH HL.length cH,.slice pS HL.length cS]
   (fun w=>RdF yx (.slice pt N.length c) N w∧RdF byC (.slice pH HL.length cH) HL w∧ahk (.slice pS HL.length cS) Z w) (OfP m (ofB ep (hOf (zY aaf) HL) (Z.map Nw.xs) m)):=by
 have hSt:=z8 p q g h (F:Int) (m:Int) pt c N hp hq hg hh hN Om Om Om Om Om;rw[hs] at hSt;have hSet:=afV pH cH HL h0 hn h32 hb;have hol:(hOf (zY aaf) HL).length=32:=yM _ _;have hoB:∀ b∈hOf (zY aaf) HL,b<256:=sF _ _;generalize hOf (zY aaf) HL=HS at *;have hbl:(byC HS).length=32:=by rw[zh,hol]
 have hCl:=fun gx=>iB HS gx 0 32 hol;have hP0:=jq [] ep 8 0 none Dt Dt;obtain⟨z0,hz0⟩ : ∃ z,Z[0]?=some z:=⟨_,List.getElem?_eq_getElem Om⟩;refine Fn.enter Tryz.func14 rfl rfl rfl ?_;intro w hw;obtain⟨w1,w2,w3⟩:=hw;obtain⟨bS,oS,rfl,_,hsS⟩:=id w3.o |>.get hz0
 have hCo:=fun gS=>mm (f:=40) [Sx.pt gS] (fun _=>false) Z bS oS cS (fun w=>Seg w gS 0 (stC p q g h (F:Int) (m:Int) (.slice pt N.length c))) zM.seg Om (fun z hz=>afT p q g h (F:Int) m (.slice pt N.length c) z gS (hZm z hz));rw[hZn,show (Z.any fun _=>false)=false by simp] at hCo
 repeat (first|refine WO.does (zt rfl rfl rfl) ?_|refine WO.does (zH rfl rfl) ?_|refine Tj ?_|intro _|refine WO.acallR (hc:=hSt) (hR:=fun wx hm=>(w1.mod hm.mod).rdK) (k:=?_)|refine WO.acallR (hc:=hCo _) (hR:=fun wx hm=>⟨hsS.mod hm.mod Sm,Hs.sg hm⟩) (k:=?_)|refine WO.acallR (hc:=hSet) (hR:=fun wx hm=>w2.mod hm.mod) (k:=?_)|refine WO.stores (zz (vs:=byC HS) (cs':=byC HS) (hl:=hbl) (h1:=yB HS) (hc:=yO (by rw[hbl];rfl)) (hle:=by rw[hbl];rfl)) ?_|refine Tc ?_|exact Tz)
 rename_i gS gH
 refine WC.loopI (σ:=Nat × Nat × Nat × List Value) (fun s=>s.1≤m∧s.2.2.2=ofB ep HS (Z.map Nw.xs) s.1∧(0<s.1→s.1≤s.2.2.1∧s.2.2.1<9223372036854775808)) (fun s=>[(1,.int .u64 (ep:Int)),(3,.slice (some ⟨bS,oS,none⟩) HL.length cS),(4,Sx.pt gS),(8,agV s.2.1 s.2.2.1 s.1 s.1),(9,.int .i64 0),(10,Sx.pt gH),(33,.int .i64 (m:Int)),(34,.int .i64 (s.1:Int))])
  (fun s=>⟨gH,70,byC HS⟩::⟨gS,36,stC p q g h (F:Int) (m:Int) (.slice pt N.length c)⟩::rwL 70 s.2.1 s.2.2.2 (mkz (s.2.2.1 - s.1) hzC) s.1) (fun s=>m - s.1) (0,0,0,[]) (fun s hi=>?_) ⟨Nat.zero_le _,rfl,fun h=>absurd h Dt⟩
 obtain⟨i,go,co,B⟩:=s;obtain⟨hi,hBe,hr⟩:=hi
 try dsimp only at hi hBe hr ⊢
 have hB:B.length=i*(hzC).length:=by rw[hBe,ao]
 by_cases hlt:i<m
 ·have hadd2:IntKind.i64.wrap ((i:Int)+1)=((i+1:Nat):Int):=zo Om Om Om;have hcv:IntKind.u8.wrap ((i+1:Nat):Int)=((i+1:Nat):Int):=ua Om Om Om
  repeat (first|refine Tk ?_|intro _|exact Tz)
  refine WC.dT rfl Om ?_
  repeat (first|refine Tk ?_|intro _|exact Tz)
  refine WC.adraw 10 (k:=?_);refine Dx ?_;refine DQ.acallS (hc:=hP0) (hR:=fun _=>Rd.nil) (k:=?_);refine Dx ?_;refine DQ.does (fun s _=>ze rfl rfl hadd2) Dp.const ?_;refine DQ.does (fun s _=>zC rfl hcv) Dp.const ?_;refine DQ.makes (vf:=fun _ g=>AX g 1 1) (t:=5) (cs:=fun _=>[.int .u8 ((i+1:Nat):Int)]) (fun s _=>zi rfl Dt rfl) Dp.const Dp.const ?_;refine DQ.does (v:=fun _=>AX gH 32 32) (fun s _=>yL rfl) Dp.const ?_;refine DQ.callsE (fs:=fun _=>[]) (cs:=fun _=>[]) (R:=fun _ w=>Seg w gH 0 (byC HS)) (vf:=fun _ x=>AX (x 0) 32 (x 1)) (Nf:=fun _ x=>[⟨x 0,5,byC HS++mkz (x 1 - 32) [.int .u8 0]⟩]) (S:=fun _ x=>32≤x 1∧x 1<9223372036854775808) (fun _=>[]) (fun _=>.nil) (fun _=>⟨fun _=>32,by decide⟩) (fun _ _=>hCl gH) (fun _=>rfl) (fun _=>rfl) (fun _=>rfl) (fun _ _ w hm=>Hs.sg hm) Dp.const Dp.const Dp.const ?_;refine DQ.makes (vf:=fun _ g=>AX g 3 3) (t:=126) (cs:=fun s=>[AX (s 1 0) 8 8,AX (s 5 0) 1 1,AX (s 7 0) 32 (s 7 1)]) (fun s _=>zi rfl Dt rfl) Dp.const (by intro s s' h;dsimp only;rw[h 1 Dkk,h 5 Dkk,h 7 Dkk]) ?_;refine Dx ?_;refine DQ.anil (k:=?_);intro sx hC;obtain⟨_,c1,c2⟩:=hC;generalize sx 1 0=g1;generalize sx 5 0=g5;generalize sx 7 0=g7;generalize sx 7 1=c7 at *;generalize sx 8 0=g8;simp only[List.map_cons,List.map_nil,List.cons_append,List.nil_append];obtain⟨Q3,hQ3⟩ : ∃ Q:List Bw,Q=[⟨g1,8,be 8 ep,[]⟩,⟨g5,1,[i+1],[]⟩,⟨g7,c7,HS,mkz (c7 - 32) [.int .u8 0]⟩]:=⟨_,rfl⟩;have hQ:Q3.flatMap bwC=[AX g1 8 8,AX g5 1 1,AX g7 32 c7]:=by rw[hQ3];simp[bwC,zm,hol]
  have hQB:bwB Q3=[⟨g7,5,byC HS++mkz (c7 - 32) [.int .u8 0]⟩,⟨g5,5,[.int .u8 ((i+1:Nat):Int)]⟩,⟨g1,5,byC (be 8 ep)⟩]:=by
   rw[hQ3];show [_,_,_]=_;simp only[bwE,List.append_nil];rfl
  have hQl:Q3.length=3:=by rw[hQ3];rfl
  have hQx:Q3.map Bw.xs=be 8 ep::[i+1]::HS::((Z.map Nw.xs).take 0).map (fun l=>be 32 (l.getD i 0)):=by rw[hQ3];rfl
  have hQk:QOk Q3:=by
   rw[hQ3];intro z hz;simp only[List.mem_cons,List.not_mem_nil,or_false] at hz
   rcases hz with rfl|rfl|rfl
   ·exact⟨⟨by show (be 8 ep).length≤8;rw[zm];exact Nat.le_refl _,by show 8<9223372036854775808;decide⟩,by show (be 8 ep).length≤32;rw[zm];decide,fun b hb=>um b hb⟩
   ·exact⟨⟨Nat.le_refl _,by show 1<9223372036854775808;decide⟩,by show 1≤32;decide,fun b hb=>by have:b=i+1:=List.mem_singleton.1 hb;omega⟩
   ·exact⟨⟨by show HS.length≤c7;omega,c2⟩,by show HS.length≤32;omega,hoB⟩
  clear hQ3
  repeat (first|refine Tk ?_|intro _|exact Tz)
  refine WC.loopI (σ:=Nat × Nat × Nat × List Bw) (fun s=>s.1≤HL.length∧(s.2.2.2.length=3+s.1∧s.2.2.2.map Bw.xs=be 8 ep::[i+1]::HS::((Z.map Nw.xs).take s.1).map (fun l=>be 32 (l.getD i 0)))∧QOk s.2.2.2∧(3+s.1≤s.2.2.1∧s.2.2.1<9223372036854775808)) (fun s=>[(1,.int .u64 (ep:Int)),(3,.slice (some ⟨bS,oS,none⟩) HL.length cS),(4,Sx.pt gS),(8,agV go co i i),(9,.int .i64 0),(10,Sx.pt gH),(33,.int .i64 (m:Int)),(34,.int .i64 (i:Int)),(11,.int .i64 (i:Int)),(12,agV s.2.1 s.2.2.1 (3+s.1) (3+s.1)),(46,.slice (some ⟨bS,oS,none⟩) HL.length cS),(47,.int .i64 (HL.length:Int)),(48,.int .i64 (s.1:Int))])
   (fun s=>⟨gH,70,byC HS⟩::⟨gS,36,stC p q g h (F:Int) (m:Int) (.slice pt N.length c)⟩::(rwL 126 s.2.1 (s.2.2.2.flatMap bwC) (mkz (s.2.2.1 - (3+s.1)) [.slice none 0 0]) (3+s.1)++(bwB s.2.2.2++rwL 70 go B (mkz (co - i) hzC) i))) (fun s=>HL.length - s.1) (0,g8,3,Q3) (fun s hk=>?_) ⟨Nat.zero_le _,⟨hQl,hQx⟩,hQk,Nat.le_refl _,by show 3<9223372036854775808;decide⟩ (hl:=by
    show Lle (_::_::(rwL 126 g8 (Q3.flatMap bwC) [] 3++(bwB Q3++_))) _;rw[hQ,hQB];simp only[rwL,List.append_nil,List.cons_append,List.nil_append]
    repeat (first|exact Lle.left'|refine Lle.c ?_|refine Lle.skp ?_))
  obtain⟨k,gp,cp,Q⟩:=s;obtain⟨hk,⟨hQl,hQx⟩,hQk,hq1,hq2⟩:=hk
  try dsimp only at hk hQl hQx hQk hq1 hq2 ⊢
  have hBl:(Q.flatMap bwC).length=(3+k)*1:=by rw[zy aD,hQl]
  by_cases hlk:k<HL.length
  ·obtain⟨z,hz⟩ : ∃ z,Z[k]?=some z:=⟨_,List.getElem?_eq_getElem Om⟩;have hzm:=List.mem_of_getElem? hz;obtain⟨x,hx⟩ : ∃ x,z.xs[i]?=some x:=⟨_,List.getElem?_eq_getElem (by rw[hZm z hzm];exact hlt)⟩;obtain⟨b,o,e,_,hsz⟩:=(w3.i z hzm).get hx;injection e with e
   injection e with e1 e2
   subst e1 e2;have hq1' : (Z.flatMap nwC)[oS+k*1 - oS]?=some (AX z.g m z.c):=by
    rw[Nat.add_sub_cancel_left,← hZm z hzm];exact (yI (j:=0) (zB (f:=nwC) (k:=1) sc hz) rfl)
   have hcx:cut (z.xs.flatMap zc) (0+i*4 - 0) 4=zc x:=by rw[Nat.zero_add,Nat.sub_zero];exact zB zL hx
   have hadd3:IntKind.i64.wrap ((k:Int)+1)=((k+1:Nat):Int):=zo Om Om Om;have hPL:Fn Tryz.prog 44 [.slice none 0 0,zj x] (fun w=>Rd (.slice none 0 0) 0 (byC []) w) (aal 5 32 (byC (be 32 x))):=by
    have:=y9 [] x 0 none Dt;simpa [zm] using this
   repeat (first|refine Tk ?_|intro _|exact Tz)
   refine WC.dT rfl Om ?_
   repeat (first|refine WO.does (zb (o':=oS+k*1) rfl rfl hlk rfl) ?_|refine WO.does (zn (hs:=hsS) (hle:=Nat.le_add_right _ _) (hc:=hq1')) ?_|refine WO.does (zb (o':=0+i*4) rfl rfl hlt rfl) ?_|refine WO.does (zk (vs:=zc x) (hs:=hsz) (hle:=by omega) (hc:=hcx)) ?_|refine Tj ?_|intro _|refine Tc ?_|exact Tz)
   refine WO.acallN (hc:=hPL) (hR:=fun _ _=>Rd.nil) (k:=fun gn=>?_);refine WO.makes (zi (cs:=[AX gn 32 32]) rfl Dt rfl) ?_;intro gb;have hB2:Q.flatMap bwC++[AX gn 32 32]=(Q++[(⟨gn,32,be 32 x,[]⟩ : Bw)]).flatMap bwC:=by rw[List.flatMap_append];simp[bwC,zm]
   refine WO.appR (z:=[.slice none 0 0]) (g:=gp) (c:=cp) (n:=3+k) (m:=1) (l:=3+(k+1)) (B:=Q.flatMap bwC) (ys:=[AX gn 32 32]) (L1:=[_,_,_,_]) (L2:=_) rfl rfl rfl rfl hBl (fun _=>⟨hq1,hq2⟩) (Rds.own (m:=1) Hs.here rfl) rfl rfl Dt rfl Om Om Dt Dt (fun gq cq a1 a2=>?_);rw[hB2];simp only[List.cons_append,List.nil_append]
   repeat (first|refine WO.does (ze rfl rfl hadd3) ?_|refine Tj ?_|intro _|refine Tc ?_|exact Tz)
   rw[← vp (g:=gq) (c:=cq) (n:=3+(k+1)) Om];have hbE:bwE (⟨gn,32,be 32 x,[]⟩ : Bw)=⟨gn,5,byC (be 32 x)⟩:=by unfold bwE;simp only[List.append_nil]
   exact WX.metI (k+1,gq,cq,Q++[(⟨gn,32,be 32 x,[]⟩ : Bw)]) (hl:=by rw[yP Om];simp only[iT,hbE,List.cons_append,List.nil_append];repeat (first|exact Lle.left'|refine Lle.c ?_|refine Lle.skp ?_)) (hs:=⟨⟨by show k+1≤HL.length;omega,⟨by show (Q++[_]).length=_;rw[List.length_append,hQl];rfl,by
    show (Q++[_]).map Bw.xs=_;rw[List.map_append,hQx,List.take_add_one,List.getElem?_map,hz,List.map_append];simp only[List.cons_append,Option.map_some,Option.toList,List.map_cons,List.map_nil,List.getD_eq_getElem?_getD,hx,Option.getD_some]⟩,fun y hy=>by
    rcases List.mem_append.1 hy with h|h
    ·exact hQk y h
    ·have:y=_:=List.mem_singleton.1 h;rw[this];exact⟨⟨by show (be 32 x).length≤32;rw[zm];exact Nat.le_refl _,by show 32<9223372036854775808;decide⟩,by show (be 32 x).length≤32;rw[zm];exact Nat.le_refl _,fun b hb=>um b hb⟩,a2,a1⟩,by show HL.length - (k+1)<HL.length - k;omega⟩)
  ·have hk2:k=HL.length:=by omega
   have h3k:0<3+k:=by omega
   have hv:(Q.flatMap bwC).length=3+k:=by rw[hBl,Nat.mul_one]
   have hH:=fz lE (Q.flatMap bwC) (Q.map Bw.xs) gp 0 cp (fun X hX=>by
    obtain⟨y,hy,rfl⟩:=List.mem_map.1 hX;exact (hQk y hy).2.2) (sK (by rw[ym];decide) (fun X hX=>by
    obtain⟨y,hy,rfl⟩:=List.mem_map.1 hX;exact (hQk y hy).2.1) (by rw[List.length_map,hQl];omega)) Dt
   rw[hv] at hH;have hHl:(byC (hOf (zY lE) (Q.map Bw.xs))).length=32:=by rw[zh];exact yM _ _
   rw[vp h3k,yP h3k];simp only[List.cons_append,List.nil_append]
   repeat (first|refine Tk ?_|intro _|exact Tz)
   refine WC.dF rfl Om ?_
   repeat (first|refine Tk ?_|intro _|exact Tz)
   refine WO.acallR (hc:=hH) (hR:=fun wx hm=>⟨Seg.preO (Hs.sg hm),oF hm Q (fun y hy=>(hQk y hy).1) (fun y hy=>by repeat (first|exact List.mem_append_left _ (am hy)|apply List.mem_cons_of_mem))⟩) (k:=?_);have hQ2:Q.map Bw.xs=be 8 ep::[i+1]::HS::(Z.map Nw.xs).map (fun l=>be 32 (l.getD i 0)):=by rw[hQx,hk2,← hZn,← List.length_map (f:=Nw.xs),List.take_length]
   have hHV:hOf (zY lE) (Q.map Bw.xs)=ofV ep HS (Z.map Nw.xs) i:=by rw[hQ2];rfl
   generalize hOf (zY lE) (Q.map Bw.xs)=HV at *;refine WO.makes (zi (cs:=byC HV) rfl Dt (nN hHl)) ?_;intro gb;refine WO.drop [_,_,_,_] ?_;simp only[List.cons_append,List.nil_append];refine WO.appR (z:=hzC) (g:=go) (c:=co) (n:=i) (m:=1) (l:=i+1) (B:=B) (ys:=byC HV) (L1:=[_,_,_,_]) (L2:=[]) rfl rfl rfl (by rw[List.append_nil];rfl) hB hr (Rds.own (m:=32) Hs.here (ye hHl)) (by rw[hHl];rfl) (yB HV) Dt rfl Om Om Dt Dt (fun g2 c2 a1 a2=>?_);simp only[List.cons_append,List.nil_append,List.append_nil]
   repeat (first|refine WO.does (ze rfl rfl hadd2) ?_|refine Tj ?_|intro _|refine Tc ?_|exact Tz)
   exact WX.metI (i+1,g2,c2,B++byC HV) (hl:=by simp only[rwL];repeat (first|exact Lle.left'|refine Lle.c ?_|refine Lle.skp ?_)) (hs:=⟨⟨by show i+1≤m;omega,by show B++byC HV=ofB ep HS (Z.map Nw.xs) (i+1);rw[jV,hBe,hHV],fun _=>⟨a2,a1⟩⟩,by show m - (i+1)<m - i;omega⟩)
 ·have hi2:i=m:=by omega
  subst hi2;obtain⟨r1,r2⟩:=hr hm0;have hClip:=adF (c:=co) (some ⟨go,0,none⟩) i r1;rw[vp hm0,yP hm0]
  repeat (first|refine Tk ?_|intro _|exact Tz)
  refine WC.dF rfl Om ?_
  repeat (first|refine Tj ?_|intro _|refine WO.acall (hc:=hClip) (k:=?_)|refine Tc ?_|exact Tz)
  exact WX.ret2 rfl Rv.t Rv.t [⟨go,70,B++mkz (co - i) hzC⟩] (Lle.c Lle.nil) ⟨go,co,rfl,by rw[hBe]⟩
end
end Sx
end
end Go.Proofs.YtiaibpcaloigkaaGreatDoor
