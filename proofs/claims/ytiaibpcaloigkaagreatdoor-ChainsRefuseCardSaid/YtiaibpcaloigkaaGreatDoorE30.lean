/- Part 30 of the proof. -/
import Derived.Test.YtiaibpcaloigkaaGreatDoorE28
import Derived.Test.YtiaibpcaloigkaaGreatDoorE29
set_option linter.unusedSimpArgs false
set_option linter.unusedVariables false
set_option maxHeartbeats 8000000
namespace Go.Proofs.YtiaibpcaloigkaaGreatDoor
section
open Go Go.RowKit Go.BigFrame
namespace Sx
theorem WC.unf {P:Program} {w0:World} {gs:LN} {n:Nat} {c:Code} {Q:Exit→Act→World→Prop} {K:List (Nat × Value)} {L:List Ent} (k:∀ a w,a.defers=[]→a.tmps.size=n→Kn K a→Me w0 gs L w→c.wp P Q a w):WC P w0 gs n c Q K L:=k
attribute [local irreducible] wd DQ WO WC WT
theorem iE (m:Nat) {α:Type} (fi fa:α→Nat) (xs:List α) (pa:Option Addr) (gA bA oA cA:Nat) (hn:xs.length≤1099511627776) (w:World) (hlt:∀ k∈[gA,bA],k<w.heap.size)
  (hA:Seg w gA 0 [.slice pa xs.length cA]) (hpa:xs≠[]→pa=some ⟨bA,oA,none⟩) (hfi:∀ k x,xs[k]?=some x→fi x=xs.length - 1 - k) (hSA:∀ k x,xs[k]?=some x→Seg w bA (oA+(xs.length - 1 - k)*4) (zc (fa x))) :
  SeqStopsK Fence.wide m Tryz.prog 264 #[pt gA] (fun x:α=>#[.int .i64 (fi x:Int),zj (fa x)]) (KpB [gA,bA]) (fun ys=>ys=xs) (fun _=>True) xs.length w:=fun l J Jx W hW hJ hJx hY h0=>by
 have hk:yD [gA,bA] w W:=fun k hk=>hW.block k (hlt k hk)
 refine adV m fi fa xs pa gA bA oA cA l J Jx hn (fun s A B h hm=>hJ s A B none h ⟨hm.os,hm.tape,hm.output,hm.size,fun k hk _=>hm.block k hk Sm⟩ Sm) (fun s A B h hm=>hJx s A B none h ⟨hm.os,hm.tape,hm.output,hm.size,fun k hk _=>hm.block k hk Sm⟩ Sm)
  hY W (hk.seg Sm hA) hpa hfi (fun k x h=>hk.seg Sm (hSA k x h)) (fun k hk=>Nat.lt_of_lt_of_le (hlt k hk) hW.size) h0
section
variable (p q g h:Nat)
theorem acj (l:LN) (pt:Option Addr) (c x:Nat) (hl:∀ a∈l,a<ze) (hn:l.length≤1099511627776) (hq:q<ze) (hx:x<ze) (hno:(uz q l && decide (x<q))=false) :
  Fn Tryz.prog 187 [vY p q g h,.slice pt l.length c,zj x] (RdF zc (.slice pt l.length c) l) (Is (.tuple #[zj 0,.int .i64 1])):=by
 have hM1:=jy p q g h l pt c hl hn hq;cases hb1:uz q l with
 | false =>
  rw[hb1] at hM1;refine Fn.enter Tryz.func187 rfl rfl rfl ?_;intro w hw
  repeat (first|refine Ta ?_|refine Tm fun _=>?_|refine WO.acallR (hc:=hM1) (hR:=fun w hm=>hw.mod hm.mod) (k:=?_)|refine Tc ?_|exact Tz)
  done
 | true =>
  have h1:=(vR hb1).1;have hM2:=fun b=>jy p q g h [x] (some ⟨b,0,none⟩) 1 (by simpa using hx) (by show 1≤1099511627776;omega) hq;have hxq:decide (x<q)=false:=by rw[hb1,Bool.true_and] at hno;exact hno
  rw[show uz q [x]=false by unfold uz;rw[List.all_cons,hxq,Bool.false_and,Bool.and_false]] at hM2;rw[hb1] at hM1;refine Fn.enter Tryz.func187 rfl rfl rfl ?_;intro w hw
  repeat (first|refine Ta ?_|refine Tm fun _=>?_|(refine WO.makes (zh (cs:=zc x) rfl Dt rfl) ?_;intro _)|refine WO.acallR (hc:=hM1) (hR:=fun w hm=>hw.mod hm.mod) (k:=?_)|refine WO.acallR (hc:=hM2 _) (hR:=fun w hm=>RdF.seg (f:=zc) (xs:=[x]) (r:=[]) (Hs.sg hm)) (k:=?_)|refine Tc ?_|exact Tz)
  done
theorem mu (l:LN) (pz:Option Addr) (c x:Nat) (hl:∀ a∈l,a<ze) (hn:l.length≤1099511627776) (hq:q<ze) (hx:x<ze) (hb1:uz q l=true) (hxq:x<q) :
  Fn Tryz.prog 187 [vY p q g h,.slice pz l.length c,zj x] (RdF zc (.slice pz l.length c) l) (Is (.tuple #[zj (yh l x%q),.int .i64 0])):=by
 have hM1:=jy p q g h l pz c hl hn hq;have hM2:=fun b=>jy p q g h [x] (some ⟨b,0,none⟩) 1 (by simpa using hx) (by show 1≤1099511627776;omega) hq;obtain⟨h1,hlq⟩:=vR hb1;rw[show uz q [x]=true by unfold uz;rw[List.all_cons,decide_eq_true h1,decide_eq_true hxq];rfl] at hM2;rw[hb1] at hM1;have hBk:=iS pz l.length c;have hlen:=mV hlq l.length (Nat.le_refl _);have hget:=mY hlq l.length (Nat.le_refl _);rw[← kt x hlq];generalize qh l hlq l.length=xs at *;refine fun w hw=>sQ (n:=40) 3 Tryz.func187 rfl rfl rfl ?_
 repeat (first|refine Ta ?_|refine Tm fun _=>?_|(refine WO.makes (zh (cs:=zc x) rfl Dt rfl) ?_;intro _)|refine WO.acallR (hc:=hM1) (hR:=fun w hm=>hw.mod hm.mod) (k:=?_)|refine WO.acallR (hc:=hM2 _) (hR:=fun w hm=>RdF.seg (f:=zc) (xs:=[x]) (r:=[]) (Hs.sg hm)) (k:=?_)|refine WO.acallX (hc:=hBk) (hR:=fun _ _=>trivial) (k:=fun s _=>?_)|refine Tc ?_|exact Tz)
 rename_i g3 g5 g6 gX gF g8 g9 hs0;clear hs0;generalize s 0=gA;refine WC.ndp' (fun hnd=>?_);refine WC.mine (fun hmn=>?_);simp only[List.map_append,List.map_cons,List.map_nil,List.cons_append,List.nil_append] at hnd hmn;refine WC.unf (fun a w1 d1 d2 d3 d4=>?_);have lF:=(d4.ok ⟨gF,_,_⟩ (Hs.mem Hs.a)).lt;have l5:=(d4.ok ⟨g5,_,_⟩ (Hs.mem Hs.a)).lt;have l6:=(d4.ok ⟨g6,_,_⟩ (Hs.mem Hs.a)).lt;have l8:=(d4.ok ⟨g8,_,_⟩ (Hs.mem Hs.a)).lt;have l9:=(d4.ok ⟨g9,_,_⟩ (Hs.mem Hs.a)).lt;have lA:=(d4.ok ⟨gA,_,_⟩ (Hs.mem Hs.a)).lt;have sA:=(d4.ok ⟨gA,_,_⟩ (Hs.mem Hs.a)).seg 0;simp only[List.drop_zero] at lF l5 l6 l8 l9 lA sA;have hn0:=d4.mod.size;have B9:w.heap.size≤g9:=(hmn ⟨g9,_,_⟩ (Hs.mem Hs.a)).resolve_right Sm;have BF:w.heap.size≤gF:=(hmn ⟨gF,_,_⟩ (Hs.mem Hs.a)).resolve_right Sm;have B6:w.heap.size≤g6:=(hmn ⟨g6,_,_⟩ (Hs.mem Hs.a)).resolve_right Sm;have hne:gA≠gF∧gA≠g9∧g8≠gF∧g8≠g9∧g5≠gF∧g5≠g9∧gF≠g9∧g9≠g6:=by
  refine⟨?_,?_,?_,?_,?_,?_,?_,?_⟩<;>(intro e;simp[e] at hnd)
 obtain⟨hne1,hne2,hne3,hne4,hne5,hne6,hne7,hne8⟩:=hne;clear hnd hmn;have hB:∃ bA oA,(xs≠[]→pz=some ⟨bA,oA,none⟩)∧bA<w1.heap.size∧bA≠gF∧bA≠g9∧∀ k y,l[k]?=some y→Seg w1 bA (oA+k*4) (zc y):=by
  by_cases hne0:l=[]
  ·refine⟨gA,0,fun hx=>absurd (List.eq_nil_of_length_eq_zero (by rw[hlen,hne0];rfl)) hx,lA,hne1,hne2,fun k y hk=>by rw[hne0] at hk;simp at hk⟩
  ·obtain⟨pt',c',e,hpc⟩:=id hw;cases e
   rcases hpc with ⟨_,h0⟩|⟨b,o,rfl,hs⟩
   ·exact absurd h0 hne0
   ·have hb:=RdF.lt (k:=3) (f:=zc) (fun _=>rfl) hw hne0;refine⟨b,o,fun _=>rfl,by omega,by omega,by omega,fun k y hk=>?_⟩;have hs1:Seg w1 b o (l.flatMap zc):=hs.mod d4.mod Sm;exact hs1.sub (ul (f:=zc) (k:=4) (fun _=>rfl) hk)
 obtain⟨bA,oA,hpa,lB,hbF,hb9,hSeg⟩:=hB;have hks:∀ k∈[gA,bA],k<w1.heap.size∧k≠gF∧k≠g9:=by
  intro k hk;simp at hk;omega
 rw[← hlen] at sA;refine (wpIn_wide (n:=3)).1 ?_
 refine wpIn_rangeFunc_ownH (F:=Fence.wide) rfl Om (gf:=264) (lb:=#[pt gA]) (d3.eval (x:=.tmp 29) rfl) trivial (enters_of Tryz.func264 Kr rfl)
  (iE 2 (fun y:CoT q=>y.1.1) (fun y=>y.1.2) xs pz gA bA oA c Om w1 (fun k hk=>(hks k hk).1) sA hpa (fun k y hk=>by rw[hlen];exact (hget k y hk).1) (fun k y hk=>by rw[hlen];exact hSeg _ _ (hget k y hk).2))
  KpB.trans (KpB.put (fun k hk=>(hks k hk).1)) (Below.refl _ _) (fun _=>rfl)
  (fun pre W=>Me w [] [⟨gF,336,fdC p q g h 0⟩,⟨g9,24,zc (vH q x pre)⟩,⟨g8,334,[pt gF]⟩,⟨g6,24,zc 0⟩,⟨g5,24,zc x⟩] W∧w1.heap.size≤W.heap.size)
  (fun _ _ _=>False)
  (fun pre A B row hs hg hr=>⟨hs.1.own hn0 hg hr,Nat.le_trans hs.2 hg.size⟩)
  (fun _ _ _ _ _ hs _ _=>hs)
  ⟨Lle.me (L':=[⟨gF,336,fdC p q g h 0⟩,⟨g9,24,zc (vH q x [])⟩,⟨g8,334,[pt gF]⟩,⟨g6,24,zc 0⟩,⟨g5,24,zc x⟩]) (by repeat (first|exact Lle.nil|refine Lle.c ?_)) d4,Nat.le_refl _⟩
  (fun y a' W=>a'.defers=[]∧a'.tmps.size=40∧∃ q11,Kn [(5,pt g5),(6,pt g6),(8,pt g8),(9,pt g9),(11,pt q11)] a'∧(⟨q11,24,zc y.1.2⟩ : Ent).ok W∧w1.heap.size≤q11)
  (fun y a' _ A B row ⟨e1,e2,q11,e3,e4,e5⟩ hg hr=>⟨e1,e2,q11,e3,e4.own hg hr,e5⟩)
  ?assign ?body ?done ?stop
 case assign =>
  intro lr pre y W K hI hK;have hQ:¬ LetsOut (Exit.then K (fun _ _ _=>False)):=fun ⟨_,_,h⟩=>h;have hkn:Kn ([(30,.int .i64 (y.1.1:Int)),(31,zj y.1.2)]++[(5,pt g5),(6,pt g6),(8,pt g8),(9,pt g9)]) { tmps:=((#[30,31]:Array Tmp).zip #[.int .i64 (y.1.1:Int),zj y.1.2]).foldl (fun t (p,v)=>t.setIfInBounds p v) a.tmps,defers:=[] }:=by
   have k00:Kn [(5,pt g5),(6,pt g6),(8,pt g8),(9,pt g9)] a:=Kle.kn d3 Kle.a;have k0:Kn [(5,pt g5),(6,pt g6),(8,pt g8),(9,pt g9)] ({ a with defers:=[] }:Act):=k00;have k1:=k0.put (d:=30) (by show 30<a.tmps.size;omega) (.int .i64 (y.1.1:Int));have k2:=k1.put (d:=31) (by rw[yn];show 31<a.tmps.size;omega) (zj y.1.2);have k3:Kn ([(30,.int .i64 (y.1.1:Int)),(31,zj y.1.2)]++[(5,pt g5),(6,pt g6),(8,pt g8),(9,pt g9)]) _:=Kle.kn k2 Kle.a;intro t v ht;have k4:=k3 t v ht;simpa [Act.put,Array.zip] using k4
  suffices HH:WI (some lr) 1 Tryz.prog W [] 40 _ (Exit.then K (fun _ _ _=>False)) ([(30,.int .i64 (y.1.1:Int)),(31,zj y.1.2)]++[(5,pt g5),(6,pt g6),(8,pt g8),(9,pt g9)]) [] from HH _ W rfl (by simp[d2]) hkn (Me.refl W [])
  repeat (first|refine WO.nil ?_|refine WO.skip ?_|refine WX.seqI ?_|refine WI.seq ?_|refine WI.region ?_ (by exact hQ)|refine WO.autoS (k:=?_)|(refine WO.autoM (k:=?_);intro _)|refine WO.auto (k:=?_)|refine WO.does yR ?_|refine WO.does ti ?_|refine WI.ret ?_|refine WI.skip ?_|refine WX.then_ret ?_|refine WX.noPanic ?_|refine WX.blk_normal ?_|refine WX.blk_ret ?_|refine WX.then_exit ?_|refine WX.blk_exit ?_|refine WX.blk_pass rfl ?_|refine WI.exit ?_|refine WI.block ?_|refine WX.scp_normal ?_|refine WX.scp_ret ?_|refine WX.scp_exit ?_|refine WI.condT rfl ?_|refine WI.condF rfl ?_)
  rename_i q11;intro a2 W2 e1 e2 e3 e4;have o11:=e4.ok ⟨q11,_,_⟩ (Hs.mem Hs.a);have m11:=(e4.mine ⟨q11,_,_⟩ (Hs.mem Hs.a)).resolve_right Sm
  refine hK a2 W2 ⟨e4.mod.size,fun k o _ hk _=>(e4.mod.block k (Array.getElem?_eq_some_iff.1 hk).1 Sm).trans hk⟩ ⟨yD.of_mod e4.mod (fun k hk=>⟨Nat.lt_of_lt_of_le (hks k hk).1 hI.2,by simp⟩),e4.mod.size⟩ ⟨hI.1.below e4.mod.below,Nat.le_trans hI.2 e4.mod.size⟩
   ⟨e1,e2,q11,Kle.kn e3 Kle.a,o11,Nat.le_trans hI.2 m11⟩
 case body =>
  rintro lr pre y a' W hl _ ⟨hI,hIs⟩ ⟨e1,e2,q11,e3,o11,hq11⟩ _;obtain⟨⟨yi,yc⟩,hyq⟩:=y;dsimp only at o11 hyq;have hOl:=aag (x:=x) h1 pre;have hsn:=pj q x pre ⟨(yi,yc),hyq⟩;dsimp only at hsn;have hTl:vH q x pre*x%q<q:=Nat.mod_lt _ Om;have hT:=aL p q g h gF (vH q x pre) x 0 (Nat.lt_trans hOl hq) hx hq;rw[show zQ (vH q x pre) x q=true by simp[zQ,h1,hOl,hxq]] at hT;have hT' : FnM Tryz.prog 230 [pt gF,zj (vH q x pre),zj x] gF 336 (fdC p q g h 0) (fdC p q g h 0) Tr (zj (vH q x pre*x%q)):=hT;have hP:=kf p q g h gF (vH q x pre*x%q) yc 0 (Nat.lt_trans hTl hq) (Nat.lt_trans hyq hq) hq;rw[show zQ (vH q x pre*x%q) yc q=true by simp[zQ,h1,hTl,hyq]] at hP;have hP' : FnM Tryz.prog 229 [pt gF,zj (vH q x pre*x%q),zj yc] gF 336 (fdC p q g h 0) (fdC p q g h 0) Tr (zj (vH q x (pre++[⟨(yi,yc),hyq⟩]))):=by rw[hsn];exact hP
  clear hT hP hsn;have iF:=hI.ok ⟨gF,_,_⟩ (Hs.mem Hs.a);have i9:=hI.ok ⟨g9,_,_⟩ (Hs.mem Hs.a);have s8:=(hI.ok ⟨g8,_,_⟩ (Hs.mem Hs.a)).seg 0;have s5:=(hI.ok ⟨g5,_,_⟩ (Hs.mem Hs.a)).seg 0;have s11:=o11.seg 0;have b8:g8 ∉ [gF,g9]:=by simp;omega
  have b5:g5 ∉ [gF,g9]:=by simp;omega
  have b11:q11 ∉ [gF,g9]:=by simp;omega
  simp only[List.drop_zero] at s8 s5 s11;have hm0:Me W [gF,g9] [⟨gF,336,fdC p q g h 0⟩,⟨g9,24,zc (vH q x pre)⟩] W:=⟨.refl _ _,fun e he=>(List.mem_cons.1 he).elim (fun h=>h ▸ iF) (fun he=>(List.mem_singleton.1 he) ▸ i9),by simp,by simpa using hne7⟩;generalize hRg:vH q x (pre++[⟨(yi,yc),hyq⟩])=R at *;have hRR:=Lib.hid hRg;clear hRg;generalize hgO:vH q x pre=O at *;generalize O*x%q=T at *;have hQ:¬ LetsOut (ownPostG w1.heap.size (KpB [gA,bA]) (fun (pre:List (CoT q)) W=>Me w [] [⟨gF,336,fdC p q g h 0⟩,⟨g9,24,zc (vH q x pre)⟩,⟨g8,334,[pt gF]⟩,⟨g6,24,zc 0⟩,⟨g5,24,zc x⟩] W∧w1.heap.size≤W.heap.size) (fun _ _ _=>False) (pre++[⟨(yi,yc),hyq⟩]) W):=fun ⟨_,_,h⟩=>h
  suffices HH:WI (some lr) 1 Tryz.prog W [gF,g9] 40 _ (ownPostG w1.heap.size (KpB [gA,bA]) (fun (pre:List (CoT q)) W=>Me w [] [⟨gF,336,fdC p q g h 0⟩,⟨g9,24,zc (vH q x pre)⟩,⟨g8,334,[pt gF]⟩,⟨g6,24,zc 0⟩,⟨g5,24,zc x⟩] W∧w1.heap.size≤W.heap.size) (fun _ _ _=>False) (pre++[⟨(yi,yc),hyq⟩]) W) [(5,pt g5),(6,pt g6),(8,pt g8),(9,pt g9),(11,pt q11)] [⟨gF,336,fdC p q g h 0⟩,⟨g9,24,zc O⟩] from HH a' W e1 e2 e3 hm0
  refine WI.block ?_;refine WI.mainA (by exact hQ) [4,6,7] [(0,pt gF),(1,pt gF),(2,zj O),(3,zj x),(5,zj yc)] Dt (fun A hA=>?_);refine WT.given [(5,pt g5),(8,pt g8),(9,pt g9),(11,pt q11)] [⟨g9,24,zc O⟩] Kr (Tlv.a (Tlv.a (Tlv.a (Tlv.a (Tlv.a (Tlv.nil) (h:=by refine Qux.does ?_;exact uq s11 (i:=0) rfl b11 (vs:=zc yc) rfl rfl)) (h:=by refine Qux.does ?_;exact uq s5 (i:=0) rfl b5 (vs:=zc x) rfl rfl))) (h:=by refine Qux.does ?_;exact vQ s8 (i:=0) rfl b8 rfl)) (h:=by refine Qux.does ?_;exact vQ s8 (i:=0) rfl b8 rfl)) (fun hc hT=>?_)
  suffices hS208:A [7,6,4] [(36,zj T),(38,zj R),(5,pt g5),(8,pt g8),(9,pt g9),(11,pt q11)] [⟨gF,336,fdC p q g h 0⟩,⟨g9,24,zc R⟩] by
   have hS80:A [6,4] [(36,zj T),(38,zj R),(5,pt g5),(8,pt g8),(9,pt g9),(11,pt q11)] [⟨gF,336,fdC p q g h 0⟩,⟨g9,24,zc O⟩]:=by
    refine (hA _ _ _).2 (WT.step [7] Dt hc hT ⟨⟨_,rfl,?_⟩,trivial⟩)
    ·refine Tw ?_;exact WT.go [] hA (hS208)
   have hS16:A [4] [(36,zj T),(5,pt g5),(8,pt g8),(9,pt g9),(11,pt q11)] [⟨gF,336,fdC p q g h 0⟩,⟨g9,24,zc O⟩]:=by
    refine (hA _ _ _).2 (WT.step [6] Dt hc hT ⟨⟨_,rfl,?_⟩,trivial⟩)
    ·refine WO.callM rfl hP' (by repeat (first|exact Rp.here|apply Rp.there)) (fun _ _=>trivial) Dt ?_ rfl rfl;exact WT.go [(38,zj R)] hA (hS80)
   have hS0:A [] [(5,pt g5),(8,pt g8),(9,pt g9),(11,pt q11)] [⟨gF,336,fdC p q g h 0⟩,⟨g9,24,zc O⟩]:=by
    refine (hA _ _ _).2 (WT.step [4] Dt hc hT ⟨⟨_,rfl,?_⟩,trivial⟩)
    ·refine WO.callM rfl hT' (by repeat (first|exact Rp.here|apply Rp.there)) (fun _ _=>trivial) Dt ?_ rfl rfl;exact WT.go [(36,zj T)] hA (hS16)
   exact WT.less ((hA _ _ _).1 hS0) Dt Kle.a (by repeat (first|exact Lle.nil|exact Lle.same|refine Lle.c ?_))
  refine (hA _ _ _).2 (WT.fin [4,6,7] 6 hc rfl Kr ?_);clear hc hT hA;refine WX.blk_normal ?_;intro a2 W2 f1 f2 f3 f4;refine⟨⟨f4.mod.size,fun k o hk0 hk _=>(f4.mod.block k (Array.getElem?_eq_some_iff.1 hk).1 (by simp;omega)).trans hk⟩,⟨yD.of_mod f4.mod (fun k hk=>⟨Nat.lt_of_lt_of_le (hks k hk).1 hIs,by simpa using (hks k hk).2⟩),f4.mod.size⟩,?_,Nat.le_trans hIs f4.mod.size⟩;rw[hRR.out];exact Me.callL (M:=[⟨gF,336,fdC p q g h 0⟩,⟨g9,24,zc O⟩]) hI f4
 case done =>
  rintro D ys W hD rfl ⟨hI,hIs⟩ hK;have i9:=hI.ok ⟨g9,_,_⟩ (Hs.mem Hs.a);have i6:=hI.ok ⟨g6,_,_⟩ (Hs.mem Hs.a);have s9:=i9.seg 0;simp only[List.drop_zero] at s9;have b9:g9 ∉ [g6]:=by simp;exact hne8
  have hm0:Me W [g6] [⟨g6,24,zc 0⟩] W:=⟨.refl _ _,by simpa using i6,by simp,by simp⟩;have hlD:D<W.heap.size:=(Array.getElem?_eq_some_iff.1 hK).1;refine WO.tail (w0:=W) (gs:=[g6]) (n:=40) (K:=[(6,pt g6),(9,pt g9)]) (L:=[⟨g6,24,zc 0⟩]) rfl d2 (Kle.kn d3 Kle.a) hm0 ?_
  repeat (first|refine WO.does (zm (hs:=s9) (hb:=b9)) ?_|refine Ta ?_|refine Tm fun _=>?_|refine Tc ?_|exact Tz)
  intro a2 W2 f1 f2 f3 f4;have hK2:W2.heap[D]?=some (.deferred (some [])):=(f4.mod.block D hlD (by simp;omega)).trans hK;refine wp_ret ?_;have hdf:(dfA ({ target:=.collected D,args:=#[] }::a.defers) a2).defers=[{ target:=.collected D,args:=#[] }]:=by simp[dfA,f1,d1]
  show LeavesInM Fence.wide 3 Tryz.prog Tryz.f187 a2.tmps _ (dfA ({ target:=.collected D,args:=#[] }::a.defers) a2).defers .returning W2;rw[hdf];refine⟨by simp,.inl ⟨_,_,rfl,run_takeDeferred hK2,?_⟩⟩;have f6:=f4.ok ⟨g6,_,_⟩ (Hs.mem Hs.a);have hB:Below w.heap.size w W2:=⟨f4.mod.os.trans hI.mod.os,f4.mod.tape.trans hI.mod.tape,f4.mod.output.trans hI.mod.output,Nat.le_trans hI.mod.size f4.mod.size,fun k hk=>(f4.mod.block k (Nat.lt_of_lt_of_le hk hI.mod.size) (by simp;omega)).trans (hI.mod.block k hk Sm)⟩;have hB3:=hB.trans (belowK_b (w:=w) (Nat.le_refl _) W2 D _ (.deferred none) Om hK2 rfl rfl);have p6:=f6.keep (w':=W2.putObj D (.deferred none)) (World.putObj_heap_other (by show g6≠D;omega));generalize W2.putObj D (.deferred none)=W3 at *;have hm3:Me W3 [g6] _ W3:=⟨.refl _ _,fun e he=>(List.mem_singleton.1 he) ▸ p6,by simp,by simp⟩;have h:=aae (P:=Tryz.prog) (yj (P:=Tryz.prog) (p:=6) (t:=24) (K:=[(7,.int .i64 0),(6,pt g6)]) rfl Hs.here (vs:=zc (vH q x ys)) rfl rfl a2 W3 (Kle.kn f3 Kle.a) hm3) (zO (P:=Tryz.prog) (K:=[(7,.int .i64 0),(6,pt g6)]) (t:=7) rfl a2 W3 (Kle.kn f3 Kle.a) hm3);refine⟨.tuple #[zj (vH q x ys),.int .i64 0],?_,_,[],rfl,hB3,fo.nil _ _,rfl⟩;rw[yC,show Tryz.f187.results=#[.cell 6 24,.tmp 7] from rfl,Sem.run_bind,h];rfl
 case stop =>
  rintro D c pre W _ _ h _;exact h.elim
end
end Sx
end
end Go.Proofs.YtiaibpcaloigkaaGreatDoor
