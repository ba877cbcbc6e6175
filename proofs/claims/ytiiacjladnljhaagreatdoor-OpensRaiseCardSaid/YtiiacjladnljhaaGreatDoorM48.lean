/- The statement OpensRaise is proved: for any setting and any Given that can be read as data, opens.Raise and opens.Shown answer as the document's references do, in memory of their own, and the arguments read as they did. No conditions beyond what the listed tables read as, which the card ties. -/
import Derived.Test.YtiiacjladnljhaaGreatDoorM47
import Derived.ChangeArms
import Derived.OpenShut
import Derived.DataReads
import Derived.WideShapes
import Derived.Test.YtiiacjladnljhaaGreatDoorCards
import Derived.Test.YtiiacjladnljhaaGreatDoorTie
import Derived.ProofKit
import Derived.LaidMore
import Derived.Stop.Joined
import Derived.SevenTiedAt
set_option linter.unusedSimpArgs false
set_option linter.unusedVariables false
namespace Go.Proofs.YtiiacjladnljhaaGreatDoor
open Go Go.RowKit Go.BigFrame Go.WideShapes
namespace Sx
theorem cut_join (cs:List Value) (a b c:Nat):cut cs a b++cut cs (a+b) c=cut cs a (b+c):=by
  unfold cut
  rw[List.take_add,List.drop_drop]
section
variable {H:Type} {enc:TypeId × Value→H} {P:Program} {w:World} {base:Nat} {spare:Nat→Bool} {held:Bool} {fuel:Nat} {cs:List Value} {x:DataW H × List MemPlace}
theorem reads_len {t:TypeId} {fs:Array Field} {m:Nat} (ht:P.underlying t=some (.struct fs)) (hm:P.cellsOf t=m) (h:DataW.trod enc P w base spare held fuel t cs=some x):cs.length=m:=by
  obtain⟨xs,n,_,_,hl,_⟩:=DataW.trod_struct ht h
  rw[hl,hm]
theorem reads_at {t:TypeId} {fs:Array Field} (ht:P.underlying t=some (.struct fs)) (h:DataW.trod enc P w base spare held fuel t cs=some x) {i off ty sz:Nat} {f:Field} (hf:fs[i]?=some f) (ho:f.offset=off) (hty:f.type=ty) (hs:P.cellsOf ty=sz) :
    ∃ n y,DataW.trod enc P w base spare held n ty (cut cs off sz)=some y:=by
  obtain⟨xs,n,_,_,_,hlen,hp⟩:=DataW.trod_struct ht h
  have h1:=hp i f hf
  subst ho hty hs
  have hi:i<xs.length:=by
    rw[hlen]
    rcases Nat.lt_or_ge i fs.size with h2|h2
    · exact h2
    · rw[Array.getElem?_eq_none h2] at hf;cases hf
  rw[List.getElem?_eq_getElem hi] at h1
  exact⟨n,_,h1⟩
theorem reads_u64 {t:TypeId} (ht:P.underlying t=some (.int .u64)) (h:DataW.trod enc P w base spare held fuel t cs=some x):∃ n:Nat,n<18446744073709551616∧cs=[.int .u64 (n:Int)]:=by
  obtain⟨n,rfl,_,hw⟩:=DataW.trod_int ht h
  simp only[Lit.wf,IntKind.min,IntKind.max,IntKind.signed,IntKind.bits,Bool.and_eq_true,decide_eq_true_eq] at hw
  have h1:(0:Int)≤n:=by simpa using hw.1
  have h2:n≤18446744073709551615:=by simpa using hw.2
  exact⟨n.toNat,by omega,by rw[Int.toNat_of_nonneg h1]⟩
theorem reads_u8 {t:TypeId} (ht:P.underlying t=some (.int .u8)) (h:DataW.trod enc P w base spare held fuel t cs=some x):∃ n:Nat,n<256∧cs=[.int .u8 (n:Int)]:=by
  obtain⟨n,rfl,_,hw⟩:=DataW.trod_int ht h
  simp only[Lit.wf,IntKind.min,IntKind.max,IntKind.signed,IntKind.bits,Bool.and_eq_true,decide_eq_true_eq] at hw
  have h1:(0:Int)≤n:=by simpa using hw.1
  have h2:n≤255:=by simpa using hw.2
  exact⟨n.toNat,by omega,by rw[Int.toNat_of_nonneg h1]⟩
theorem reads_i64 {t:TypeId} (ht:P.underlying t=some (.int .i64)) (h:DataW.trod enc P w base spare held fuel t cs=some x):∃ n:Int,-9223372036854775808≤n∧n≤9223372036854775807∧cs=[.int .i64 n]:=by
  obtain⟨n,rfl,_,hw⟩:=DataW.trod_int ht h
  simp only[Lit.wf,IntKind.min,IntKind.max,IntKind.signed,IntKind.bits,Bool.and_eq_true,decide_eq_true_eq] at hw
  exact⟨n,by simpa using hw.1,by simpa using hw.2,rfl⟩
theorem reads_num {t e:TypeId} (ht:P.underlying t=some (.array 4 e)) (he:P.underlying e=some (.int .u64)) (h4:P.cellsOf t=4) (h1:P.cellsOf e=1) (h:DataW.trod enc P w base spare held fuel t cs=some x):∃ n:Nat,n<B256∧cs=numC n:=by
  obtain⟨xs,m,_,_,hl,hlen,hp⟩:=DataW.trod_array ht h
  rw[h4] at hl
  match cs,hl with
  | [c0,c1,c2,c3],_ =>
    have k:∀ (i:Nat),i<4→∃ y,DataW.trod enc P w base spare held m e (([c0,c1,c2,c3].drop (i*P.cellsOf e)).take (P.cellsOf e))=some y:=fun i hi=>by
      have h2:=hp i hi
      rw[List.getElem?_eq_getElem (by omega)] at h2
      exact⟨_,h2⟩
    rw[h1] at k
    obtain⟨y0,k0⟩:=k 0 (by omega)
    obtain⟨y1,k1⟩:=k 1 (by omega)
    obtain⟨y2,k2⟩:=k 2 (by omega)
    obtain⟨y3,k3⟩:=k 3 (by omega)
    obtain⟨a0,b0,e0⟩:=reads_u64 he k0
    obtain⟨a1,b1,e1⟩:=reads_u64 he k1
    obtain⟨a2,b2,e2⟩:=reads_u64 he k2
    obtain⟨a3,b3,e3⟩:=reads_u64 he k3
    simp at e0 e1 e2 e3
    subst e0 e1 e2 e3
    obtain⟨w0,w1,w2,w3⟩:=wd_val4 b0 b1 b2 b3
    exact⟨val4 a0 a1 a2 a3,val4_lt b0 b1 b2 b3,by rw[numC,w0,w1,w2,w3]⟩
theorem Seg.app {b o:Nat} {A B:List Value} (hA:Seg w b o A) (hB:Seg w b (o+A.length) B):Seg w b o (A++B):=by
  intro i v hv
  rcases Nat.lt_or_ge i A.length with h|h
  · rw[List.getElem?_append_left h] at hv;exact hA i v hv
  · rw[List.getElem?_append_right h] at hv
    have:=hB _ v hv
    rwa [show o+A.length+(i - A.length)=o+i by omega] at this
theorem seg_of_cells {b o n:Nat} {l:List Value} (h:w.cells? base ⟨b,o,none⟩ n=some l):Seg w b o l:=by
  obtain⟨_,hl,hc⟩:=World.cells?_some h
  intro i v hv
  have hi:i<n:=by
    rw[← hl]
    rcases Nat.lt_or_ge i l.length with h1|h1
    · exact h1
    · rw[List.getElem?_eq_none h1] at hv;cases hv
  have:=hc i hi
  rw[add_mk] at this
  rw[this,hv]
theorem reads_row {α:Type} {f:α→List Value} {ok:α→Prop} {t e:TypeId} {k:Nat} (ht:P.underlying t=some (.slice e)) (hk:P.cellsOf e=k) (hf:∀ a,(f a).length=k)
    (hE:∀ (fuel:Nat) (cs:List Value) (x:DataW H × List MemPlace),DataW.trod enc P w base spare held fuel e cs=some x→∃ a,ok a∧cs=f a)
    (h:DataW.trod enc P w base spare held fuel t cs=some x) (hs:∀ a l c,cs=[.slice (some a) l c]→a.spot=none) :
    ∃ pt xs c,cs=[.slice pt xs.length c]∧(∀ a∈xs,ok a)∧RdF f (.slice pt xs.length c) xs w:=by
  rcases DataW.trod_slice ht h with ⟨rfl,_⟩|⟨a,len,cap,elems,rest,n,_,rfl,_,_,_,_,hlen,hel,_⟩
  · exact⟨none,[],0,rfl,by simp,none,0,rfl,.inl ⟨rfl,rfl⟩⟩
  have ha:=hs a len cap rfl
  obtain⟨b,o,sp⟩:=a
  simp only at ha
  subst ha
  have key:∀ m,m≤len→∃ xs:List α,xs.length=m∧(∀ a∈xs,ok a)∧Seg w b o (xs.flatMap f):=by
    intro m
    induction m with
    | zero=>exact fun _=>⟨[],rfl,by simp,fun i v hv=>by simp at hv⟩
    | succ m ih =>
      intro hm
      obtain⟨xs,h1,h2,h3⟩:=ih (by omega)
      have h4:=hel m (by omega)
      rw[List.getElem?_eq_getElem (by omega),hk,add_mk] at h4
      cases h5:w.cells? base ⟨b,o+m*k,none⟩ k with
      | none=>rw[h5] at h4;cases h4
      | some l =>
        rw[h5] at h4
        obtain⟨y,hy,rfl⟩:=hE n l _ h4
        refine⟨xs++[y],by simp[h1],fun a ha=>?_,?_⟩
        · rcases List.mem_append.1 ha with ha|ha
          · exact h2 a ha
          · obtain rfl:=List.mem_singleton.1 ha;exact hy
        · rw[List.flatMap_append]
          refine h3.app ?_
          rw[flat_length hf,h1]
          simpa using seg_of_cells h5
  obtain⟨xs,rfl,h2,h3⟩:=key len (Nat.le_refl _)
  exact⟨some ⟨b,o,none⟩,xs,cap,rfl,h2,_,cap,rfl,.inr ⟨b,o,rfl,h3⟩⟩
theorem okWide_spot {r:Reach} {b0:Nat} {t u e:TypeId} {cs:Array Value} {ts:List TypeId} {fs:Array Field} {i:Nat} (ht:P.underlying t=some (.struct fs)) (hts:P.cellTypes P.depth t=some ts) (hn:ts.length=P.cellsOf t)
    (hv:Value.okWide P w r b0 t (.agg cs)) (hu:ts[i]?=some u) (hue:P.underlying u=some (.slice e)):∀ a l c,cs[i]?=some (.slice (some a) l c)→a.spot=none:=by
  intro a l c hc
  unfold Value.okWide at hv
  rw[ht] at hv
  obtain⟨cs',h1,h2,ts',h3,_,h4⟩:=hv
  cases h1
  rw[hts] at h3
  cases h3
  obtain⟨u',h5,h6⟩:=h4 i _ hc
  have hi:i<ts.length:=by
    rcases Nat.lt_or_ge i ts.length with h|h
    · exact h
    · rw[List.getElem?_eq_none h] at hu;cases hu
  rw[Nat.mod_eq_of_lt hi,hu] at h5
  cases h5
  unfold Cell.okWide Cell.ok at h6
  rw[hue] at h6
  exact h6.2.2.2.1
end
section
variable {H:Type} {enc:TypeId × Value→H} {w:World} {base:Nat} {spare:Nat→Bool} {held:Bool} {fuel:Nat} {cs:List Value} {x:DataW H × List MemPlace}
theorem z_u64:Tryz.prog.cellsOf 22=1:=by kernel_rfl
theorem z_u8:Tryz.prog.cellsOf 5=1:=by kernel_rfl
theorem z_int:Tryz.prog.cellsOf 3=1:=by kernel_rfl
theorem z_num:Tryz.prog.cellsOf 24=4:=by kernel_rfl
theorem z_group:Tryz.prog.cellsOf 26=16:=by kernel_rfl
theorem z_key:Tryz.prog.cellsOf 97=8:=by kernel_rfl
theorem z_keys:Tryz.prog.cellsOf 27=1:=by kernel_rfl
theorem z_nums:Tryz.prog.cellsOf 30=1:=by kernel_rfl
theorem z_setting:Tryz.prog.cellsOf 29=19:=by kernel_rfl
theorem d_num (h:DataW.trod enc Tryz.prog w base spare held fuel 24 cs=some x):∃ n:Nat,n<B256∧cs=numC n:=reads_num Tryz.underlying24 Tryz.underlying22 z_num z_u64 h
theorem d_key (h:DataW.trod enc Tryz.prog w base spare held fuel 97 cs=some x):∃ k:Nat × Nat,(k.1<B256∧k.2<B256)∧cs=keyC k:=by
  have hl:=reads_len Tryz.underlying97 z_key h
  obtain⟨_,_,h0⟩:=reads_at Tryz.underlying97 h (i:=0) (off:=0) (ty:=24) rfl rfl rfl z_num
  obtain⟨_,_,h1⟩:=reads_at Tryz.underlying97 h (i:=1) (off:=4) (ty:=24) rfl rfl rfl z_num
  obtain⟨a,ha,e0⟩:=d_num h0
  obtain⟨b,hb,e1⟩:=d_num h1
  refine⟨(a,b),⟨ha,hb⟩,?_⟩
  rw[← cut_all hl,← cut_join cs 0 4 4,e0,e1]
  rfl
theorem d_group (h:DataW.trod enc Tryz.prog w base spare held fuel 26 cs=some x):∃ p q g u,p<B256∧q<B256∧g<B256∧u<B256∧cs=grpC p q g u:=by
  have hl:=reads_len Tryz.underlying26 z_group h
  obtain⟨_,_,h0⟩:=reads_at Tryz.underlying26 h (i:=0) (off:=0) (ty:=24) rfl rfl rfl z_num
  obtain⟨_,_,h1⟩:=reads_at Tryz.underlying26 h (i:=1) (off:=4) (ty:=24) rfl rfl rfl z_num
  obtain⟨_,_,h2⟩:=reads_at Tryz.underlying26 h (i:=2) (off:=8) (ty:=24) rfl rfl rfl z_num
  obtain⟨_,_,h3⟩:=reads_at Tryz.underlying26 h (i:=3) (off:=12) (ty:=24) rfl rfl rfl z_num
  obtain⟨a,ha,e0⟩:=d_num h0
  obtain⟨b,hb,e1⟩:=d_num h1
  obtain⟨c,hc,e2⟩:=d_num h2
  obtain⟨d,hd,e3⟩:=d_num h3
  refine⟨a,b,c,d,ha,hb,hc,hd,?_⟩
  rw[← cut_all hl,← cut_join cs 0 4 12,← cut_join cs (0+4) 4 8,← cut_join cs (0+4+4) 4 4,e0,e1,e2,e3]
  rfl
theorem cut_one {i:Nat} {v:Value} (h:cut cs i 1=[v]):cs[i]?=some v:=by
  have:=cut_get (j:=0) (v:=v) h rfl
  rwa [Nat.add_zero] at this
theorem d_setting (h:DataW.trod enc Tryz.prog w base spare held fuel 29 cs=some x) (hs:∀ a l c,cs[18]?=some (.slice (some a) l c)→a.spot=none) :
    ∃ p q g u f sec pt N c,p<B256∧q<B256∧g<B256∧u<B256∧(-9223372036854775808≤f∧f≤9223372036854775807∧-9223372036854775808≤sec∧sec≤9223372036854775807)∧NumsOk N∧cs=stC p q g u f sec (.slice pt N.length c)∧RdF keyC (.slice pt N.length c) N w:=by
  have hl:=reads_len Tryz.underlying29 z_setting h
  obtain⟨_,_,h0⟩:=reads_at Tryz.underlying29 h (i:=0) (off:=0) (ty:=26) rfl rfl rfl z_group
  obtain⟨_,_,h1⟩:=reads_at Tryz.underlying29 h (i:=1) (off:=16) (ty:=3) rfl rfl rfl z_int
  obtain⟨_,_,h2⟩:=reads_at Tryz.underlying29 h (i:=2) (off:=17) (ty:=3) rfl rfl rfl z_int
  obtain⟨_,_,h3⟩:=reads_at Tryz.underlying29 h (i:=3) (off:=18) (ty:=27) rfl rfl rfl z_keys
  obtain⟨p,q,g,u,hp,hq,hg,hu,e0⟩:=d_group h0
  obtain⟨f,hf1,hf2,e1⟩:=reads_i64 Tryz.underlying3 h1
  obtain⟨sec,hs1,hs2,e2⟩:=reads_i64 Tryz.underlying3 h2
  obtain⟨pt,N,c,e3,hN,hR⟩:=reads_row (f:=keyC) (ok:=fun k=>k.1<B256∧k.2<B256) Tryz.underlying27 z_key keyC_len (fun _ _ _ h=>d_key h) h3 (fun a l c e=>hs a l c (cut_one e))
  refine⟨p,q,g,u,f,sec,pt,N,c,hp,hq,hg,hu,⟨hf1,hf2,hs1,hs2⟩,hN,?_,hR⟩
  rw[← cut_all hl,← cut_join cs 0 16 3,← cut_join cs (0+16) 1 2,← cut_join cs (0+16+1) 1 1,e0,e1,e2,e3]
  rfl
theorem z_proof:Tryz.prog.cellsOf 74=8:=by kernel_rfl
theorem z_sig:Tryz.prog.cellsOf 33=8:=by kernel_rfl
theorem z_proofs:Tryz.prog.cellsOf 31=1:=by kernel_rfl
theorem z_openeds:Tryz.prog.cellsOf 36=1:=by kernel_rfl
theorem z_opened:Tryz.prog.cellsOf 76=15:=by kernel_rfl
theorem z_dealing:Tryz.prog.cellsOf 35=13:=by kernel_rfl
theorem z_given:Tryz.prog.cellsOf 38=20:=by kernel_rfl
theorem d_proof (h:DataW.trod enc Tryz.prog w base spare held fuel 74 cs=some x):∃ k:Nat × Nat,(k.1<B256∧k.2<B256)∧cs=pfC k:=by
  have hl:=reads_len Tryz.underlying74 z_proof h
  obtain⟨_,_,h0⟩:=reads_at Tryz.underlying74 h (i:=0) (off:=0) (ty:=24) rfl rfl rfl z_num
  obtain⟨_,_,h1⟩:=reads_at Tryz.underlying74 h (i:=1) (off:=4) (ty:=24) rfl rfl rfl z_num
  obtain⟨a,ha,e0⟩:=d_num h0
  obtain⟨b,hb,e1⟩:=d_num h1
  refine⟨(a,b),⟨ha,hb⟩,?_⟩
  rw[← cut_all hl,← cut_join cs 0 4 4,e0,e1]
  rfl
theorem d_sig (h:DataW.trod enc Tryz.prog w base spare held fuel 33 cs=some x):∃ a b,a<B256∧b<B256∧cs=twoC a b:=by
  have hl:=reads_len Tryz.underlying33 z_sig h
  obtain⟨_,_,h0⟩:=reads_at Tryz.underlying33 h (i:=0) (off:=0) (ty:=24) rfl rfl rfl z_num
  obtain⟨_,_,h1⟩:=reads_at Tryz.underlying33 h (i:=1) (off:=4) (ty:=24) rfl rfl rfl z_num
  obtain⟨a,ha,e0⟩:=d_num h0
  obtain⟨b,hb,e1⟩:=d_num h1
  refine⟨a,b,ha,hb,?_⟩
  rw[← cut_all hl,← cut_join cs 0 4 4,e0,e1]
  rfl
theorem d_opened (h:DataW.trod enc Tryz.prog w base spare held fuel 76 cs=some x):∃ o:Od,OdOk o∧cs=odC o:=by
  have hl:=reads_len Tryz.underlying76 z_opened h
  obtain⟨_,_,h0⟩:=reads_at Tryz.underlying76 h (i:=0) (off:=0) (ty:=22) rfl rfl rfl z_u64
  obtain⟨_,_,h1⟩:=reads_at Tryz.underlying76 h (i:=1) (off:=1) (ty:=5) rfl rfl rfl z_u8
  obtain⟨_,_,h2⟩:=reads_at Tryz.underlying76 h (i:=2) (off:=2) (ty:=5) rfl rfl rfl z_u8
  obtain⟨_,_,h3⟩:=reads_at Tryz.underlying76 h (i:=3) (off:=3) (ty:=24) rfl rfl rfl z_num
  obtain⟨_,_,h4⟩:=reads_at Tryz.underlying76 h (i:=4) (off:=7) (ty:=74) rfl rfl rfl z_proof
  obtain⟨a,ha,e0⟩:=reads_u64 Tryz.underlying22 h0
  obtain⟨b,hb,e1⟩:=reads_u8 Tryz.underlying5 h1
  obtain⟨c,hc,e2⟩:=reads_u8 Tryz.underlying5 h2
  obtain⟨d,hd,e3⟩:=d_num h3
  obtain⟨k,hk,e4⟩:=d_proof h4
  refine⟨⟨a,b,c,d,k.1,k.2⟩,⟨ha,hb,hc,hd,hk.1,hk.2⟩,?_⟩
  rw[← cut_all hl,← cut_join cs 0 1 14,← cut_join cs (0+1) 1 13,← cut_join cs (0+1+1) 1 12,← cut_join cs (0+1+1+1) 4 8,e0,e1,e2,e3,e4]
  rfl
theorem d_dealing (h:DataW.trod enc Tryz.prog w base spare held fuel 35 cs=some x) (hs:∀ i,i=2∨i=3∨i=4→∀ a l c,cs[i]?=some (.slice (some a) l c)→a.spot=none) :
    ∃ ep d pV V cV pY Y cY pP Pr cP sC sS,ep<18446744073709551616∧d<256∧(∀ y∈Y,y<B256)∧cs=dlC ep d (.slice pV (List.length V) cV) (.slice pY (List.length Y) cY) (.slice pP (List.length Pr) cP) sC sS∧RdF numC (.slice pV V.length cV) V w∧RdF numC (.slice pY Y.length cY) Y w∧RdF pfC (.slice pP Pr.length cP) Pr w:=by
  have hl:=reads_len Tryz.underlying35 z_dealing h
  obtain⟨_,_,h0⟩:=reads_at Tryz.underlying35 h (i:=0) (off:=0) (ty:=22) rfl rfl rfl z_u64
  obtain⟨_,_,h1⟩:=reads_at Tryz.underlying35 h (i:=1) (off:=1) (ty:=5) rfl rfl rfl z_u8
  obtain⟨_,_,h2⟩:=reads_at Tryz.underlying35 h (i:=2) (off:=2) (ty:=30) rfl rfl rfl z_nums
  obtain⟨_,_,h3⟩:=reads_at Tryz.underlying35 h (i:=3) (off:=3) (ty:=30) rfl rfl rfl z_nums
  obtain⟨_,_,h4⟩:=reads_at Tryz.underlying35 h (i:=4) (off:=4) (ty:=31) rfl rfl rfl z_proofs
  obtain⟨_,_,h5⟩:=reads_at Tryz.underlying35 h (i:=5) (off:=5) (ty:=33) rfl rfl rfl z_sig
  obtain⟨ep,hep,e0⟩:=reads_u64 Tryz.underlying22 h0
  obtain⟨d,hd,e1⟩:=reads_u8 Tryz.underlying5 h1
  obtain⟨pV,V,cV,e2,_,hV⟩:=reads_row (f:=numC) (ok:=fun y=>y<B256) Tryz.underlying30 z_num numC_len (fun _ _ _ h=>d_num h) h2 (fun a l c e=>hs 2 (.inl rfl) a l c (cut_one e))
  obtain⟨pY,Y,cY,e3,hYb,hY⟩:=reads_row (f:=numC) (ok:=fun y=>y<B256) Tryz.underlying30 z_num numC_len (fun _ _ _ h=>d_num h) h3 (fun a l c e=>hs 3 (.inr (.inl rfl)) a l c (cut_one e))
  obtain⟨pP,Pr,cP,e4,_,hP⟩:=reads_row (f:=pfC) (ok:=fun k=>k.1<B256∧k.2<B256) Tryz.underlying31 z_proof pfC_len (fun _ _ _ h=>d_proof h) h4 (fun a l c e=>hs 4 (.inr (.inr rfl)) a l c (cut_one e))
  obtain⟨sC,sS,_,_,e5⟩:=d_sig h5
  refine⟨ep,d,pV,V,cV,pY,Y,cY,pP,Pr,cP,sC,sS,hep,hd,hYb,?_,hV,hY,hP⟩
  rw[← cut_all hl,← cut_join cs 0 1 12,← cut_join cs (0+1) 1 11,← cut_join cs (0+1+1) 1 10,← cut_join cs (0+1+1+1) 1 9,← cut_join cs (0+1+1+1+1) 1 8,e0,e1,e2,e3,e4,e5]
  rfl
theorem d_given (h:DataW.trod enc Tryz.prog w base spare held fuel 38 cs=some x) (hs:∀ i,i=2∨i=3∨i=4∨i=18∨i=19→∀ a l c,cs[i]?=some (.slice (some a) l c)→a.spot=none) :
    ∃ ep d pV V cV pY Y cY pP Pr cP sC sS n u pO Ol cO p5 P5 c5,ep<18446744073709551616∧d<256∧(∀ y∈Y,y<B256)∧n<256∧u<B256∧(∀ o∈Ol,OdOk o)∧(∀ y∈P5,y<B256) ∧
      cs=gvC ep d (.slice pV (List.length V) cV) (.slice pY (List.length Y) cY) (.slice pP (List.length Pr) cP) sC sS n u (.slice pO (List.length Ol) cO) (.slice p5 (List.length P5) c5)∧RdF numC (.slice pV V.length cV) V w∧RdF numC (.slice pY Y.length cY) Y w∧RdF pfC (.slice pP Pr.length cP) Pr w∧RdF odC (.slice pO Ol.length cO) Ol w∧RdF numC (.slice p5 P5.length c5) P5 w:=by
  have hl:=reads_len Tryz.underlying38 z_given h
  obtain⟨_,_,h0⟩:=reads_at Tryz.underlying38 h (i:=0) (off:=0) (ty:=35) rfl rfl rfl z_dealing
  obtain⟨_,_,h1⟩:=reads_at Tryz.underlying38 h (i:=1) (off:=13) (ty:=5) rfl rfl rfl z_u8
  obtain⟨_,_,h2⟩:=reads_at Tryz.underlying38 h (i:=2) (off:=14) (ty:=24) rfl rfl rfl z_num
  obtain⟨_,_,h3⟩:=reads_at Tryz.underlying38 h (i:=3) (off:=18) (ty:=36) rfl rfl rfl z_openeds
  obtain⟨_,_,h4⟩:=reads_at Tryz.underlying38 h (i:=4) (off:=19) (ty:=30) rfl rfl rfl z_nums
  obtain⟨ep,d,pV,V,cV,pY,Y,cY,pP,Pr,cP,sC,sS,hep,hd,hYb,e0,hV,hY,hP⟩:=d_dealing h0 (fun i hi a l c e=>hs i (by omega) a l c (by
    have hlt:i<13:=by omega
    unfold cut at e
    rw[List.drop_zero,List.getElem?_take,if_pos hlt] at e
    exact e))
  obtain⟨n,hn,e1⟩:=reads_u8 Tryz.underlying5 h1
  obtain⟨u,hu,e2⟩:=d_num h2
  obtain⟨pO,Ol,cO,e3,hO,hOl⟩:=reads_row (f:=odC) (ok:=OdOk) Tryz.underlying36 z_opened odC_len (fun _ _ _ h=>d_opened h) h3 (fun a l c e=>hs 18 (by omega) a l c (cut_one e))
  obtain⟨p5,P5,c5,e4,h5b,h5r⟩:=reads_row (f:=numC) (ok:=fun y=>y<B256) Tryz.underlying30 z_num numC_len (fun _ _ _ h=>d_num h) h4 (fun a l c e=>hs 19 (by omega) a l c (cut_one e))
  refine⟨ep,d,pV,V,cV,pY,Y,cY,pP,Pr,cP,sC,sS,n,u,pO,Ol,cO,p5,P5,c5,hep,hd,hYb,hn,hu,hO,h5b,?_,hV,hY,hP,hOl,h5r⟩
  rw[← cut_all hl,← cut_join cs 0 13 7,← cut_join cs (0+13) 1 6,← cut_join cs (0+13+1) 4 2,← cut_join cs (0+13+1+4) 1 1,e0,e1,e2,e3,e4]
  rfl
end
end Sx
end Go.Proofs.YtiiacjladnljhaaGreatDoor
namespace Go.Proofs.YtiiacjladnljhaaGreatDoor.opensRaise
open Go Go.RowKit Go.BigFrame Go.ChangeShapes Go.WideShapes Go.ChangeAt Sx
theorem own:ownKnob Tryz.prog.godebug=none:=by kernel_rfl
theorem cells_setting:Tryz.prog.cellTypes Tryz.prog.depth 29=some (List.replicate 16 22++[3,3,27]):=by kernel_rfl
theorem cells_given:Tryz.prog.cellTypes Tryz.prog.depth 38=some ([22,5,30,30,31]++List.replicate 8 22++[5]++List.replicate 4 22++[36,30]):=by kernel_rfl
theorem laid:laidOutB Tryz.prog=true:=by kernel_rfl
theorem rec_setting:Tryz.prog.readableRec 29=true:=by kernel_rfl
theorem rec_given:Tryz.prog.readableRec 38=true:=by kernel_rfl
abbrev laidL:List (String × DataW Unit):=[("math/bits.deBruijn32tab",Rows.laid_math_bits_deBruijn32tab),("math/bits.deBruijn64tab",Rows.laid_math_bits_deBruijn64tab),("internal/strconv.uint64pow10",Rows.laid_internal_strconv_uint64pow10)]
set_option maxRecDepth 100000 in
theorem door_met (os:Os) (args:Array Value):laidMetH Tryz.prog laidL ((World.doorLaid Tryz.prog 24 os).forCall (fun _ _=>0) ⟨#[],args,[]⟩).memory :=
  laidMetH_of_parts3 (fuel:=8) (laidMet_of_run' 8 (by kernel_rfl) (by kernel_rfl)) (by kernel_rfl) (by kernel_rfl)
set_option maxRecDepth 100000 in
theorem lifted (os:Os) (started:os.Started) (H:Type) (enc:TypeId × Value→H) :
    ReturnsInHanded {} Tryz.checked os 3 .any (fun w args=>(Rows.opensRaiseSpec.pre enc Tryz.prog Tryz.f3 [] false w args∧laidMetH Tryz.prog laidL w)∧sizedMet enc Tryz.prog Tryz.f3 (OpenSpec.ofChange Rows.opensRaiseSpec) false w args)
      (Rows.opensRaiseSpec.post enc Tryz.prog Tryz.f3 false true false false):=by
  refine returnsInHanded_of_change_and (C:=Tryz.checked) (X:=fun w _=>laidMetH Tryz.prog laidL w) (fun _ _ _ hh h=>h.of_heap hh) own started (by kernel_rfl) Tryz.func3
    (ChangeSpec.witness_shaped (enc:=enc) (C:=Tryz.checked) (os:=os) (X:=fun w _=>laidMetH Tryz.prog laidL w) false (World.doorLaid Tryz.prog 24 os) #[.agg #[.int .u64 0,.int .u64 0,.int .u64 0,.int .u64 0,.int .u64 0,.int .u64 0,.int .u64 0,.int .u64 0,.int .u64 0,.int .u64 0,.int .u64 0,.int .u64 0,.int .u64 0,.int .u64 0,.int .u64 0,.int .u64 0,.int .i64 0,.int .i64 0,.slice none 0 0],
      .agg #[.int .u64 0,.int .u8 0,.slice none 0 0,.slice none 0 0,.slice none 0 0,.int .u64 0,.int .u64 0,.int .u64 0,.int .u64 0,.int .u64 0,.int .u64 0,.int .u64 0,.int .u64 0,.int .u8 0,.int .u64 0,.int .u64 0,.int .u64 0,.int .u64 0,.slice none 0 0,.slice none 0 0]] 8 rfl (World.shaped_of_RefB (by kernel_rfl) (by kernel_rfl)) (by kernel_rfl) (by kernel_rfl) (by kernel_rfl) (door_met os _)) ?_
  intro W base args ds gs before hval0 hW _ _ _ _
  have hval:∀ (j:Nat) t v,Tryz.f3.params[j]?=some t→args[j]?=some v→Value.okWide Tryz.prog W .any base t v:=hval0
  have hW':=hW
  have hlt:=hW.lt
  obtain⟨p,q,hA0,hV,rfl,hfz,hnd⟩:=hW
  have hA:DataW.TrodAll enc Tryz.prog W 0 (fun _=>true) true Tryz.f3.params.toList args.toList ds p:=hA0
  rw[Tryz.params3] at hA hval
  obtain⟨v0,v1,d0,d1,p0,p1,rfl,rfl,rfl,h0,h1⟩:=trodAll_two hA
  obtain⟨rfl,rfl⟩:=trodVars_none hV
  have k0:=hval 0 29 v0 rfl rfl
  have k1:=hval 1 38 v1 rfl rfl
  obtain⟨cs0,rfl,_⟩:=okWide_struct Tryz.underlying29 k0
  obtain⟨cs1,rfl,_⟩:=okWide_struct Tryz.underlying38 k1
  obtain⟨f0,t0⟩:=id h0
  obtain⟨f1,t1⟩:=id h1
  obtain⟨pp,qq,gg,uu,ff,sec,pt,N,c,b1,b2,b3,b4,⟨b5,b6,b7,b8⟩,hN,e0,hR⟩:=d_setting t0 (fun a l c e=>okWide_spot Tryz.underlying29 cells_setting z_setting.symm k0 (i:=18) (u:=27) rfl Tryz.underlying27 a l c (by simpa [Value.cells] using e))
  obtain⟨ep,d,pV,V,cV,pY,Y,cY,pP,Pr,cP,sC,sS,n,u,pO,Ol,cO,p5,P5,c5,g1,g2,g3,g4,g5,g6,g7,e1,r1,r2,r3,r4,r5⟩:=d_given t1 (fun i hi a l c e=>by
    have e' : cs1[i]?=some (.slice (some a) l c):=by simpa [Value.cells] using e
    rcases hi with rfl|rfl|rfl|rfl|rfl
    · exact okWide_spot Tryz.underlying38 cells_given z_given.symm k1 (i:=2) (u:=30) rfl Tryz.underlying30 a l c e'
    · exact okWide_spot Tryz.underlying38 cells_given z_given.symm k1 (i:=3) (u:=30) rfl Tryz.underlying30 a l c e'
    · exact okWide_spot Tryz.underlying38 cells_given z_given.symm k1 (i:=4) (u:=31) rfl Tryz.underlying31 a l c e'
    · exact okWide_spot Tryz.underlying38 cells_given z_given.symm k1 (i:=18) (u:=36) rfl Tryz.underlying36 a l c e'
    · exact okWide_spot Tryz.underlying38 cells_given z_given.symm k1 (i:=19) (u:=30) rfl Tryz.underlying30 a l c e')
  have a0:Value.agg cs0=stV pp qq gg uu ff sec (.slice pt N.length c):=by
    have:cs0.toList=stC pp qq gg uu ff sec (.slice pt N.length c):=by simpa [Value.cells] using e0
    rw[← Array.toArray_toList (xs:=cs0),this]
  have a1:Value.agg cs1=gvV ep d (.slice pV V.length cV) (.slice pY Y.length cY) (.slice pP Pr.length cP) sC sS n u (.slice pO Ol.length cO) (.slice p5 P5.length c5):=by
    have:cs1.toList=gvC ep d (.slice pV V.length cV) (.slice pY Y.length cY) (.slice pP Pr.length cP) sC sS n u (.slice pO Ol.length cO) (.slice p5 P5.length c5):=by simpa [Value.cells] using e1
    rw[← Array.toArray_toList (xs:=cs1),this]
  have hF:=u_OpensRaise pp qq gg uu ff sec ep d sC sS n u pt pV pY pP pO p5 V.length Y.length Pr.length c cV cY cP cO c5 N Ol P5 b1 b2 b3 b4 hN g6 g7 b5 b6 b7 b8 W ⟨hR,r4,r5⟩
  rw[← a0,← a1] at hF
  clear hA0 hval0
  simp only[List.append_nil] at hW' hlt
  refine Calls.mono hF ?_
  rintro e W' ⟨v,Nn,rfl,hb,_,hv⟩
  have hv' : v=.bool true:=hv
  subst hv'
  refine⟨_,rfl,[d0,d1],[],p0++p1,[],p0++p1,[],hW',?_,?_,rfl,hb.frame _,fun h=>by cases h⟩
  · exact trodAll_mk1 (shut_bool Tryz.underlying4 true)
  · exact trodAll_mk2 (WideElems.Trod_stays laid rec_setting (of_decide_eq_true (by kernel_rfl)) h0 (fun x hx=>hb.same (hlt x (List.mem_append_left _ hx))) (fun x hx=>decide_eq_true (hlt x (List.mem_append_left _ hx))))
      (WideElems.Trod_stays laid rec_given (of_decide_eq_true (by kernel_rfl)) h1 (fun x hx=>hb.same (hlt x (List.mem_append_right _ hx))) (fun x hx=>decide_eq_true (hlt x (List.mem_append_right _ hx))))
theorem said:Rows.OpensRaiseSaid :=
  OpenClaim.holds_of_wide 3 Tryz.f3 rfl rfl rfl rfl rfl rfl rfl ⟨rfl,rfl,rfl,rfl,rfl⟩ rfl rfl rfl rfl rfl (by kernel_rfl) Tryz.func3 (by kernel_rfl)
    (of_decide_eq_true (by kernel_rfl)) (by unfold Func.isWrapper;first|(rw[if_pos (by decide +kernel)];kernel_rfl)|(rw[if_neg (by decide +kernel)];exact⟨rfl,rfl⟩))
    (fun os started H enc _=>lifted os started H enc)
theorem proved:Rows.OpensRaiseCardSaid :=
  Claim7.holds_tied_plain_at .later [] [.data,.data,.data] true (true,"cd9e1b5db7bdc0322b496159890b0ff5a2fcfeb948d1b7cf3246d973dcee9cf8") false
    said (fun _ h=>by cases h) (by kernel_rfl) (fun _ h=>by cases h) opensRaise_row_tie rfl ⟨rfl,rfl⟩ (by kernel_rfl) rfl
    (fun f fn hf hfn=>by
      obtain rfl:f=3:=Option.some.inj ((show Tryz.prog.funcNamed "balefire/balefirelaw16.OpensRaise"=some 3 by kernel_rfl).symm.trans hf) |>.symm
      obtain rfl:fn=Tryz.f3:=(Option.some.inj (Tryz.func3.symm.trans hfn)).symm
      exact⟨by kernel_rfl,fun j t ht=>by
        rw[Tryz.params3] at ht
        have hm:t∈[29,38]:=by simpa using Array.mem_of_getElem? ht
        have hall:([29,38].all fun u=>!Tryz.prog.wantsStandIn u)=true:=by kernel_rfl
        exact (show Tryz.prog.wantsStandIn t=false by simpa using List.all_eq_true.1 hall t hm)⟩)
    (by kernel_rfl)
end Go.Proofs.YtiiacjladnljhaaGreatDoor.opensRaise
