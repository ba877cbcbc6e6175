/- Part 29 of the proof: PlC -/
import Derived.Test.YtiiacjladnljhaaGreatDoorM28
import Derived.Test.YtiiacjladnljhaaGreatDoorM21
set_option linter.unusedSimpArgs false
set_option linter.unusedVariables false
namespace Go.Proofs.YtiiacjladnljhaaGreatDoor
open Go Go.RowKit Go.BigFrame
namespace Sx
theorem WC.unf {P:Program} {w0:World} {gs:List Nat} {n:Nat} {c:Code} {Q:Exit→Act→World→Prop} {K:List (Nat × Value)} {L:List Ent} (k:∀ a w,a.defers=[]→a.tmps.size=n→Kn K a→Me w0 gs L w→c.wp P Q a w):WC P w0 gs n c Q K L:=k
attribute [local irreducible] wd DQ DQS WO WC
theorem back_stops (m:Nat) {α:Type} (fi fa:α→Nat) (xs:List α) (pa:Option Addr) (gA bA oA cA:Nat) (hn:xs.length≤1099511627776) (w:World) (hlt:∀ k∈[gA,bA],k<w.heap.size)
    (hA:Seg w gA 0 [.slice pa xs.length cA]) (hpa:xs≠[]→pa=some ⟨bA,oA,none⟩) (hfi:∀ k x,xs[k]?=some x→fi x=xs.length - 1 - k) (hSA:∀ k x,xs[k]?=some x→Seg w bA (oA+(xs.length - 1 - k)*4) (numC (fa x))) :
    SeqStopsK Fence.wide m Tryz.prog 265 #[pt gA] (fun x:α=>#[.int .i64 (fi x:Int),numV (fa x)]) (KpB [gA,bA]) (fun ys=>ys=xs) (fun _=>True) xs.length w:=fun l J Jx W hW hJ hJx hY h0=>by
  have hk:KeepB [gA,bA] w W:=fun k hk=>hW.block k (hlt k hk)
  refine back_in m fi fa xs pa gA bA oA cA l J Jx hn (fun s A B h hm=>hJ s A B none h ⟨hm.os,hm.tape,hm.output,hm.size,fun k hk _=>hm.block k hk (by simp)⟩ (by simp)) (fun s A B h hm=>hJx s A B none h ⟨hm.os,hm.tape,hm.output,hm.size,fun k hk _=>hm.block k hk (by simp)⟩ (by simp))
    hY W (hk.seg (by simp) hA) hpa hfi (fun k x h=>hk.seg (by simp) (hSA k x h)) (fun k hk=>Nat.lt_of_lt_of_le (hlt k hk) hW.size) h0
section
variable (p q g h:Nat)
theorem c_pAtN (l:List Nat) (pt:Option Addr) (c x:Nat) (hl:∀ a∈l,a<B256) (hn:l.length≤1099511627776) (hq:q<B256) (hx:x<B256) (hno:(allN q l && decide (x<q))=false) :
    Fn Tryz.prog 207 [grpV p q g h,.slice pt l.length c,numV x] (RdF numC (.slice pt l.length c) l) (Is (.tuple #[numV 0,.int .i64 1])):=by
  have hM1:=c_pmay p q g h l pt c hl hn hq
  cases hb1:allN q l with
  | false =>
    rw[hb1] at hM1
    refine Fn.enter Tryz.func207 rfl rfl rfl ?_
    intro w hw
    repeat (first|refine Ta ?_|(refine Tm ?_;intro _)|refine WO.acallR (hc:=hM1) (hR:=fun w hm=>hw.mod hm.mod) (k:=?_)|refine Tc ?_|exact Tz)
    done
  | true =>
    have h1:=(allN_spec hb1).1
    have hM2:=fun b=>c_pmay p q g h [x] (some ⟨b,0,none⟩) 1 (by simpa using hx) (by show 1≤1099511627776;omega) hq
    have hxq:decide (x<q)=false:=by rw[hb1,Bool.true_and] at hno;exact hno
    rw[show allN q [x]=false by unfold allN;rw[List.all_cons,hxq,Bool.false_and,Bool.and_false]] at hM2
    rw[hb1] at hM1
    refine Fn.enter Tryz.func207 rfl rfl rfl ?_
    intro w hw
    repeat (first|refine Ta ?_|(refine Tm ?_;intro _)|(refine WO.makes (makes_build (cs:=numC x) rfl (by decide) rfl) ?_;intro _)|refine WO.acallR (hc:=hM1) (hR:=fun w hm=>hw.mod hm.mod) (k:=?_)|refine WO.acallR (hc:=hM2 _) (hR:=fun w hm=>RdF.seg (f:=numC) (xs:=[x]) (r:=[]) (Hs.seg (by repeat (first|exact Hs.here|apply Hs.there)) hm)) (k:=?_)|refine Tc ?_|exact Tz)
    done
set_option maxHeartbeats 4000000 in
theorem c_pAtY (l:List Nat) (pz:Option Addr) (c x:Nat) (hl:∀ a∈l,a<B256) (hn:l.length≤1099511627776) (hq:q<B256) (hx:x<B256) (hb1:allN q l=true) (hxq:x<q) :
    Fn Tryz.prog 207 [grpV p q g h,.slice pz l.length c,numV x] (RdF numC (.slice pz l.length c) l) (Is (.tuple #[numV (polyN l x%q),.int .i64 0])):=by
  have hM1:=c_pmay p q g h l pz c hl hn hq
  have hM2:=fun b=>c_pmay p q g h [x] (some ⟨b,0,none⟩) 1 (by simpa using hx) (by show 1≤1099511627776;omega) hq
  obtain⟨h1,hlq⟩:=allN_spec hb1
  rw[show allN q [x]=true by unfold allN;rw[List.all_cons,decide_eq_true h1,decide_eq_true hxq];rfl] at hM2
  rw[hb1] at hM1
  have hBk:=c_Backward pz l.length c
  have hlen:=backs_len hlq l.length (Nat.le_refl _)
  have hget:=backs_get hlq l.length (Nat.le_refl _)
  rw[← hornF_backs x hlq]
  generalize backs l hlq l.length=xs at *
  refine fun w hw=>calls_enterM (n:=40) 3 Tryz.func207 rfl rfl rfl ?_
  repeat (first|refine Ta ?_|(refine Tm ?_;intro _)|(refine WO.makes (makes_build (cs:=numC x) rfl (by decide) rfl) ?_;intro _)|refine WO.acallR (hc:=hM1) (hR:=fun w hm=>hw.mod hm.mod) (k:=?_)|refine WO.acallR (hc:=hM2 _) (hR:=fun w hm=>RdF.seg (f:=numC) (xs:=[x]) (r:=[]) (Hs.seg (by repeat (first|exact Hs.here|apply Hs.there)) hm)) (k:=?_)|refine WO.acallX (hc:=hBk) (hR:=fun _ _=>trivial) (k:=fun s _=>?_)|refine Tc ?_|exact Tz)
  rename_i g3 g5 g6 gX gF g8 g9 hs0
  clear hs0
  generalize s 0=gA
  refine WC.ndp' (fun hnd=>?_)
  refine WC.mine (fun hmn=>?_)
  simp only[List.map_append,List.map_cons,List.map_nil,List.cons_append,List.nil_append] at hnd hmn
  refine WC.unf (fun a w1 d1 d2 d3 d4=>?_)
  have lF:=(d4.ok ⟨gF,_,_⟩ (Hs.mem (by repeat (first|exact Hs.here|apply Hs.there)))).lt
  have l5:=(d4.ok ⟨g5,_,_⟩ (Hs.mem (by repeat (first|exact Hs.here|apply Hs.there)))).lt
  have l6:=(d4.ok ⟨g6,_,_⟩ (Hs.mem (by repeat (first|exact Hs.here|apply Hs.there)))).lt
  have l8:=(d4.ok ⟨g8,_,_⟩ (Hs.mem (by repeat (first|exact Hs.here|apply Hs.there)))).lt
  have l9:=(d4.ok ⟨g9,_,_⟩ (Hs.mem (by repeat (first|exact Hs.here|apply Hs.there)))).lt
  have lA:=(d4.ok ⟨gA,_,_⟩ (Hs.mem (by repeat (first|exact Hs.here|apply Hs.there)))).lt
  have sA:=(d4.ok ⟨gA,_,_⟩ (Hs.mem (by repeat (first|exact Hs.here|apply Hs.there)))).seg 0
  simp only[List.drop_zero] at lF l5 l6 l8 l9 lA sA
  have hn0:=d4.mod.size
  have B9:w.heap.size≤g9:=(hmn ⟨g9,_,_⟩ (Hs.mem (by repeat (first|exact Hs.here|apply Hs.there)))).resolve_right (by simp)
  have BF:w.heap.size≤gF:=(hmn ⟨gF,_,_⟩ (Hs.mem (by repeat (first|exact Hs.here|apply Hs.there)))).resolve_right (by simp)
  have B6:w.heap.size≤g6:=(hmn ⟨g6,_,_⟩ (Hs.mem (by repeat (first|exact Hs.here|apply Hs.there)))).resolve_right (by simp)
  have hne:gA≠gF∧gA≠g9∧g8≠gF∧g8≠g9∧g5≠gF∧g5≠g9∧gF≠g9∧g9≠g6:=by
    refine⟨?_,?_,?_,?_,?_,?_,?_,?_⟩<;>(intro e;simp[e] at hnd)
  obtain⟨hne1,hne2,hne3,hne4,hne5,hne6,hne7,hne8⟩:=hne
  clear hnd hmn
  have hB:∃ bA oA,(xs≠[]→pz=some ⟨bA,oA,none⟩)∧bA<w1.heap.size∧bA≠gF∧bA≠g9∧∀ k y,l[k]?=some y→Seg w1 bA (oA+k*4) (numC y):=by
    by_cases hne0:l=[]
    · refine⟨gA,0,fun hx=>absurd (List.eq_nil_of_length_eq_zero (by rw[hlen,hne0];rfl)) hx,lA,hne1,hne2,fun k y hk=>by rw[hne0] at hk;simp at hk⟩
    · obtain⟨pt',c',e,hpc⟩:=id hw
      cases e
      rcases hpc with ⟨_,h0⟩|⟨b,o,rfl,hs⟩
      · exact absurd h0 hne0
      · have hb:=RdF.lt (k:=3) (f:=numC) (fun _=>rfl) hw hne0
        refine⟨b,o,fun _=>rfl,by omega,by omega,by omega,fun k y hk=>?_⟩
        have hs1:Seg w1 b o (l.flatMap numC):=hs.mod d4.mod (by simp)
        exact hs1.sub (cut_flatP (f:=numC) (k:=4) (fun _=>rfl) hk)
  obtain⟨bA,oA,hpa,lB,hbF,hb9,hSeg⟩:=hB
  have hks:∀ k∈[gA,bA],k<w1.heap.size∧k≠gF∧k≠g9:=by
    intro k hk
    simp at hk
    omega
  rw[← hlen] at sA
  refine (wpIn_wide (n:=3)).1 ?_
  refine wpIn_rangeFunc_ownH (F:=Fence.wide) rfl (by omega) (gf:=265) (lb:=#[pt gA]) (d3.eval (x:=.tmp 29) rfl) trivial (enters_of Tryz.func265 (by kernel_rfl) rfl)
    (back_stops 2 (fun y:CoT q=>y.1.1) (fun y=>y.1.2) xs pz gA bA oA c (by omega) w1 (fun k hk=>(hks k hk).1) sA hpa (fun k y hk=>by rw[hlen];exact (hget k y hk).1) (fun k y hk=>by rw[hlen];exact hSeg _ _ (hget k y hk).2))
    KpB.trans (KpB.put (fun k hk=>(hks k hk).1)) (Below.refl _ _) (fun _=>rfl)
    (fun pre W=>Me w [] [⟨gF,253,fdC p q g h 0⟩,⟨g9,24,numC (hornF q x pre)⟩,⟨g8,251,[pt gF]⟩,⟨g6,24,numC 0⟩,⟨g5,24,numC x⟩] W∧w1.heap.size≤W.heap.size)
    (fun _ _ _=>False)
    (fun pre A B row hs hg hr=>⟨hs.1.own hn0 hg hr,Nat.le_trans hs.2 hg.size⟩)
    (fun _ _ _ _ _ hs _ _=>hs)
    ⟨Lle.me (L':=[⟨gF,253,fdC p q g h 0⟩,⟨g9,24,numC (hornF q x [])⟩,⟨g8,251,[pt gF]⟩,⟨g6,24,numC 0⟩,⟨g5,24,numC x⟩]) (by repeat (first|exact Lle.nil|refine Lle.cons (by repeat (first|exact Pk.here|apply Pk.there)) rfl ?_)) d4,Nat.le_refl _⟩
    (fun y a' W=>a'.defers=[]∧a'.tmps.size=40∧∃ q11,Kn [(5,pt g5),(6,pt g6),(8,pt g8),(9,pt g9),(11,pt q11)] a'∧(⟨q11,24,numC y.1.2⟩ : Ent).ok W∧w1.heap.size≤q11)
    (fun y a' _ A B row ⟨e1,e2,q11,e3,e4,e5⟩ hg hr=>⟨e1,e2,q11,e3,e4.own hg hr,e5⟩)
    ?assign ?body ?done ?stop
  case assign =>
    intro lr pre y W K hI hK
    have hQ:¬ LetsOut (Exit.then K (fun _ _ _=>False)):=fun ⟨_,_,h⟩=>h
    have hkn:Kn ([(30,.int .i64 (y.1.1:Int)),(31,numV y.1.2)]++[(5,pt g5),(6,pt g6),(8,pt g8),(9,pt g9)]) { tmps:=((#[30,31]:Array Tmp).zip #[.int .i64 (y.1.1:Int),numV y.1.2]).foldl (fun t (p,v)=>t.setIfInBounds p v) a.tmps,defers:=[] }:=by
      have k00:Kn [(5,pt g5),(6,pt g6),(8,pt g8),(9,pt g9)] a:=Kle.kn d3 (by repeat (first|exact Kle.nil|refine Kle.cons rfl rfl ?_))
      have k0:Kn [(5,pt g5),(6,pt g6),(8,pt g8),(9,pt g9)] ({ a with defers:=[] }:Act):=k00
      have k1:=k0.put (d:=30) (by show 30<a.tmps.size;omega) (.int .i64 (y.1.1:Int))
      have k2:=k1.put (d:=31) (by rw[put_size];show 31<a.tmps.size;omega) (numV y.1.2)
      have k3:Kn ([(30,.int .i64 (y.1.1:Int)),(31,numV y.1.2)]++[(5,pt g5),(6,pt g6),(8,pt g8),(9,pt g9)]) _:=Kle.kn k2 (by repeat (first|exact Kle.nil|refine Kle.cons rfl rfl ?_))
      intro t v ht;have k4:=k3 t v ht;simpa [Act.put,Array.zip] using k4
    suffices HH:WI (some lr) 1 Tryz.prog W [] 40 _ (Exit.then K (fun _ _ _=>False)) ([(30,.int .i64 (y.1.1:Int)),(31,numV y.1.2)]++[(5,pt g5),(6,pt g6),(8,pt g8),(9,pt g9)]) [] from HH _ W rfl (by simp[d2]) hkn (Me.refl W [])
    repeat (first|refine WO.nil ?_|refine WO.skip ?_|refine WX.seqI ?_|refine WI.seq ?_|refine WI.region ?_ (by exact hQ)|refine WO.autoS (k:=?_)|(refine WO.autoM (k:=?_);intro _)|refine WO.auto (k:=?_)|refine WO.does a_eqNum ?_|refine WO.does a_neqNum ?_|refine WI.ret ?_|refine WI.skip ?_|refine WX.then_ret ?_|refine WX.noPanic ?_|refine WX.blk_normal ?_|refine WX.blk_ret ?_|refine WX.then_exit ?_|refine WX.blk_exit ?_|refine WX.blk_pass rfl ?_|refine WI.exit ?_|refine WI.block ?_|refine WX.scp_normal ?_|refine WX.scp_ret ?_|refine WX.scp_exit ?_|refine WI.condT rfl ?_|refine WI.condF rfl ?_)
    rename_i q11
    intro a2 W2 e1 e2 e3 e4
    have o11:=e4.ok ⟨q11,_,_⟩ (Hs.mem (by repeat (first|exact Hs.here|apply Hs.there)))
    have m11:=(e4.mine ⟨q11,_,_⟩ (Hs.mem (by repeat (first|exact Hs.here|apply Hs.there)))).resolve_right (by simp)
    refine hK a2 W2 ⟨e4.mod.size,fun k o _ hk _=>(e4.mod.block k (Array.getElem?_eq_some_iff.1 hk).1 (by simp)).trans hk⟩ ⟨KeepB.of_mod e4.mod (fun k hk=>⟨Nat.lt_of_lt_of_le (hks k hk).1 hI.2,by simp⟩),e4.mod.size⟩ ⟨hI.1.below e4.mod.below,Nat.le_trans hI.2 e4.mod.size⟩
      ⟨e1,e2,q11,Kle.kn e3 (by repeat (first|exact Kle.nil|refine Kle.cons rfl rfl ?_)),o11,Nat.le_trans hI.2 m11⟩
  case body =>
    rintro lr pre y a' W hl _ ⟨hI,hIs⟩ ⟨e1,e2,q11,e3,o11,hq11⟩ _
    obtain⟨⟨yi,yc⟩,hyq⟩:=y
    dsimp only at o11 hyq
    have hOl:=hornF_lt (x:=x) h1 pre
    have hsn:=hornF_snoc q x pre ⟨(yi,yc),hyq⟩
    dsimp only at hsn
    have hTl:hornF q x pre*x%q<q:=Nat.mod_lt _ (by omega)
    have hT:=c_ftimes p q g h gF (hornF q x pre) x 0 (Nat.lt_trans hOl hq) hx hq
    rw[show mayN (hornF q x pre) x q=true by simp[mayN,h1,hOl,hxq]] at hT
    have hT' : FnM Tryz.prog 191 [pt gF,numV (hornF q x pre),numV x] gF 253 (fdC p q g h 0) (fdC p q g h 0) Tr (numV (hornF q x pre*x%q)):=hT
    have hP:=c_fplus p q g h gF (hornF q x pre*x%q) yc 0 (Nat.lt_trans hTl hq) (Nat.lt_trans hyq hq) hq
    rw[show mayN (hornF q x pre*x%q) yc q=true by simp[mayN,h1,hTl,hyq]] at hP
    have hP' : FnM Tryz.prog 232 [pt gF,numV (hornF q x pre*x%q),numV yc] gF 253 (fdC p q g h 0) (fdC p q g h 0) Tr (numV (hornF q x (pre++[⟨(yi,yc),hyq⟩]))):=by rw[hsn];exact hP
    clear hT hP hsn
    have iF:=hI.ok ⟨gF,_,_⟩ (Hs.mem (by repeat (first|exact Hs.here|apply Hs.there)))
    have i9:=hI.ok ⟨g9,_,_⟩ (Hs.mem (by repeat (first|exact Hs.here|apply Hs.there)))
    have s8:=(hI.ok ⟨g8,_,_⟩ (Hs.mem (by repeat (first|exact Hs.here|apply Hs.there)))).seg 0
    have s5:=(hI.ok ⟨g5,_,_⟩ (Hs.mem (by repeat (first|exact Hs.here|apply Hs.there)))).seg 0
    have s11:=o11.seg 0
    have b8:g8 ∉ [gF,g9]:=by simp;omega
    have b5:g5 ∉ [gF,g9]:=by simp;omega
    have b11:q11 ∉ [gF,g9]:=by simp;omega
    simp only[List.drop_zero] at s8 s5 s11
    have hm0:Me W [gF,g9] [⟨gF,253,fdC p q g h 0⟩,⟨g9,24,numC (hornF q x pre)⟩] W:=⟨.refl _ _,fun e he=>(List.mem_cons.1 he).elim (fun h=>h ▸ iF) (fun he=>(List.mem_singleton.1 he) ▸ i9),by simp,by simpa using hne7⟩
    generalize hRg:hornF q x (pre++[⟨(yi,yc),hyq⟩])=R at *
    have hRR:=Lib.hid hRg
    clear hRg
    generalize hgO:hornF q x pre=O at *
    generalize O*x%q=T at *
    have hQ:¬ LetsOut (ownPostG w1.heap.size (KpB [gA,bA]) (fun (pre:List (CoT q)) W=>Me w [] [⟨gF,253,fdC p q g h 0⟩,⟨g9,24,numC (hornF q x pre)⟩,⟨g8,251,[pt gF]⟩,⟨g6,24,numC 0⟩,⟨g5,24,numC x⟩] W∧w1.heap.size≤W.heap.size) (fun _ _ _=>False) (pre++[⟨(yi,yc),hyq⟩]) W):=fun ⟨_,_,h⟩=>h
    suffices HH:WI (some lr) 1 Tryz.prog W [gF,g9] 40 _ (ownPostG w1.heap.size (KpB [gA,bA]) (fun (pre:List (CoT q)) W=>Me w [] [⟨gF,253,fdC p q g h 0⟩,⟨g9,24,numC (hornF q x pre)⟩,⟨g8,251,[pt gF]⟩,⟨g6,24,numC 0⟩,⟨g5,24,numC x⟩] W∧w1.heap.size≤W.heap.size) (fun _ _ _=>False) (pre++[⟨(yi,yc),hyq⟩]) W) [(5,pt g5),(6,pt g6),(8,pt g8),(9,pt g9),(11,pt q11)] [⟨gF,253,fdC p q g h 0⟩,⟨g9,24,numC O⟩] from HH a' W e1 e2 e3 hm0
    refine WI.block ?_
    refine WI.headR [(32,pt gF),(33,pt gF),(34,numV O),(35,numV x),(36,numV T),(37,numV yc),(38,numV R),(5,pt g5),(8,pt g8),(9,pt g9),(11,pt q11)] [⟨gF,253,fdC p q g h 0⟩,⟨g9,24,numC R⟩] (List.replicate 8 true) 0 (by exact hQ) (fun Q A hA hC=>?_) ?_
    · clear hQ hRR
      suffices hS255:A [(32,pt gF),(33,pt gF),(34,numV O),(35,numV x),(36,numV T),(37,numV yc),(38,numV R),(5,pt g5),(8,pt g8),(9,pt g9),(11,pt q11)] [⟨gF,253,fdC p q g h 0⟩,⟨g9,24,numC R⟩] [true,true,true,true,true,true,true,true] 0 by
        have hS127:A [(32,pt gF),(33,pt gF),(34,numV O),(35,numV x),(36,numV T),(37,numV yc),(38,numV R),(5,pt g5),(8,pt g8),(9,pt g9),(11,pt q11)] [⟨gF,253,fdC p q g h 0⟩,⟨g9,24,numC O⟩] [true,true,true,true,true,true,true,false] 1:=by
          refine (hA _ _ _ _).2 (VR.step [7] ?_)
          refine EachR.cons (fun hQ1 hd1=>?_) ?_
          · first|refine Ta ?_|(refine Tm ?_;intro _)|refine Tc ?_
            refine WO.nil (WX.vr ?_ hQ1 hd1)
            exact VR.less _ _ ((hA _ _ _ _).1 (hS255))
          exact EachR.nil
        have hS63:A [(32,pt gF),(33,pt gF),(34,numV O),(35,numV x),(36,numV T),(37,numV yc),(5,pt g5),(8,pt g8),(9,pt g9),(11,pt q11)] [⟨gF,253,fdC p q g h 0⟩,⟨g9,24,numC O⟩] [true,true,true,true,true,true,false,false] 2:=by
          refine (hA _ _ _ _).2 (VR.step [6] ?_)
          refine EachR.cons (fun hQ1 hd1=>?_) ?_
          · refine WO.callM rfl hP' (by repeat (first|exact Rp.here|apply Rp.there)) (fun _ _=>trivial) (by decide) ?_ rfl rfl
            refine WO.nil (WX.vr ?_ hQ1 hd1)
            exact VR.less _ _ ((hA _ _ _ _).1 (hS127))
          exact EachR.nil
        have hS31:A [(32,pt gF),(33,pt gF),(34,numV O),(35,numV x),(36,numV T),(5,pt g5),(8,pt g8),(9,pt g9),(11,pt q11)] [⟨gF,253,fdC p q g h 0⟩,⟨g9,24,numC O⟩] [true,true,true,true,true,false,false,false] 3:=by
          refine (hA _ _ _ _).2 (VR.step [5] ?_)
          refine EachR.cons (fun hQ1 hd1=>?_) ?_
          · refine WO.does (does_loadF s11 (i:=0) rfl b11 (vs:=numC yc) rfl rfl) ?_
            refine WO.nil (WX.vr ?_ hQ1 hd1)
            exact VR.less _ _ ((hA _ _ _ _).1 (hS63))
          exact EachR.nil
        have hS47:A [(32,pt gF),(33,pt gF),(34,numV O),(35,numV x),(37,numV yc),(5,pt g5),(8,pt g8),(9,pt g9),(11,pt q11)] [⟨gF,253,fdC p q g h 0⟩,⟨g9,24,numC O⟩] [true,true,true,true,false,true,false,false] 3:=by
          refine (hA _ _ _ _).2 (VR.step [4] ?_)
          refine EachR.cons (fun hQ1 hd1=>?_) ?_
          · refine WO.callM rfl hT' (by repeat (first|exact Rp.here|apply Rp.there)) (fun _ _=>trivial) (by decide) ?_ rfl rfl
            refine WO.nil (WX.vr ?_ hQ1 hd1)
            exact VR.less _ _ ((hA _ _ _ _).1 (hS63))
          exact EachR.nil
        have hS62:A [(33,pt gF),(34,numV O),(35,numV x),(36,numV T),(37,numV yc),(5,pt g5),(8,pt g8),(9,pt g9),(11,pt q11)] [⟨gF,253,fdC p q g h 0⟩,⟨g9,24,numC O⟩] [false,true,true,true,true,true,false,false] 3:=by
          refine (hA _ _ _ _).2 (VR.step [0] ?_)
          refine EachR.cons (fun hQ1 hd1=>?_) ?_
          · refine WO.does (does_loadF1 s8 (i:=0) rfl b8 rfl) ?_
            refine WO.nil (WX.vr ?_ hQ1 hd1)
            exact VR.less _ _ ((hA _ _ _ _).1 (hS63))
          exact EachR.nil
        have hS15:A [(32,pt gF),(33,pt gF),(34,numV O),(35,numV x),(5,pt g5),(8,pt g8),(9,pt g9),(11,pt q11)] [⟨gF,253,fdC p q g h 0⟩,⟨g9,24,numC O⟩] [true,true,true,true,false,false,false,false] 4:=by
          refine (hA _ _ _ _).2 (VR.step [4,5] ?_)
          refine EachR.cons (fun hQ1 hd1=>?_) ?_
          · refine WO.callM rfl hT' (by repeat (first|exact Rp.here|apply Rp.there)) (fun _ _=>trivial) (by decide) ?_ rfl rfl
            refine WO.nil (WX.vr ?_ hQ1 hd1)
            exact VR.less _ _ ((hA _ _ _ _).1 (hS31))
          refine EachR.cons (fun hQ1 hd1=>?_) ?_
          · refine WO.does (does_loadF s11 (i:=0) rfl b11 (vs:=numC yc) rfl rfl) ?_
            refine WO.nil (WX.vr ?_ hQ1 hd1)
            exact VR.less _ _ ((hA _ _ _ _).1 (hS47))
          exact EachR.nil
        have hS39:A [(32,pt gF),(33,pt gF),(34,numV O),(37,numV yc),(5,pt g5),(8,pt g8),(9,pt g9),(11,pt q11)] [⟨gF,253,fdC p q g h 0⟩,⟨g9,24,numC O⟩] [true,true,true,false,false,true,false,false] 4:=by
          refine (hA _ _ _ _).2 (VR.step [3] ?_)
          refine EachR.cons (fun hQ1 hd1=>?_) ?_
          · refine WO.does (does_loadF s5 (i:=0) rfl b5 (vs:=numC x) rfl rfl) ?_
            refine WO.nil (WX.vr ?_ hQ1 hd1)
            exact VR.less _ _ ((hA _ _ _ _).1 (hS47))
          exact EachR.nil
        have hS43:A [(32,pt gF),(33,pt gF),(35,numV x),(37,numV yc),(5,pt g5),(8,pt g8),(9,pt g9),(11,pt q11)] [⟨gF,253,fdC p q g h 0⟩,⟨g9,24,numC O⟩] [true,true,false,true,false,true,false,false] 4:=by
          refine (hA _ _ _ _).2 (VR.step [2] ?_)
          refine EachR.cons (fun hQ1 hd1=>?_) ?_
          · first|refine Ta ?_|(refine Tm ?_;intro _)|refine Tc ?_
            refine WO.nil (WX.vr ?_ hQ1 hd1)
            exact VR.less _ _ ((hA _ _ _ _).1 (hS47))
          exact EachR.nil
        have hS45:A [(32,pt gF),(34,numV O),(35,numV x),(37,numV yc),(5,pt g5),(8,pt g8),(9,pt g9),(11,pt q11)] [⟨gF,253,fdC p q g h 0⟩,⟨g9,24,numC O⟩] [true,false,true,true,false,true,false,false] 4:=by
          refine (hA _ _ _ _).2 (VR.step [1] ?_)
          refine EachR.cons (fun hQ1 hd1=>?_) ?_
          · refine WO.does (does_loadF1 s8 (i:=0) rfl b8 rfl) ?_
            refine WO.nil (WX.vr ?_ hQ1 hd1)
            exact VR.less _ _ ((hA _ _ _ _).1 (hS47))
          exact EachR.nil
        have hS30:A [(33,pt gF),(34,numV O),(35,numV x),(36,numV T),(5,pt g5),(8,pt g8),(9,pt g9),(11,pt q11)] [⟨gF,253,fdC p q g h 0⟩,⟨g9,24,numC O⟩] [false,true,true,true,true,false,false,false] 4:=by
          refine (hA _ _ _ _).2 (VR.step [0,5] ?_)
          refine EachR.cons (fun hQ1 hd1=>?_) ?_
          · refine WO.does (does_loadF1 s8 (i:=0) rfl b8 rfl) ?_
            refine WO.nil (WX.vr ?_ hQ1 hd1)
            exact VR.less _ _ ((hA _ _ _ _).1 (hS31))
          refine EachR.cons (fun hQ1 hd1=>?_) ?_
          · refine WO.does (does_loadF s11 (i:=0) rfl b11 (vs:=numC yc) rfl rfl) ?_
            refine WO.nil (WX.vr ?_ hQ1 hd1)
            exact VR.less _ _ ((hA _ _ _ _).1 (hS62))
          exact EachR.nil
        have hS46:A [(33,pt gF),(34,numV O),(35,numV x),(37,numV yc),(5,pt g5),(8,pt g8),(9,pt g9),(11,pt q11)] [⟨gF,253,fdC p q g h 0⟩,⟨g9,24,numC O⟩] [false,true,true,true,false,true,false,false] 4:=by
          refine (hA _ _ _ _).2 (VR.step [0,4] ?_)
          refine EachR.cons (fun hQ1 hd1=>?_) ?_
          · refine WO.does (does_loadF1 s8 (i:=0) rfl b8 rfl) ?_
            refine WO.nil (WX.vr ?_ hQ1 hd1)
            exact VR.less _ _ ((hA _ _ _ _).1 (hS47))
          refine EachR.cons (fun hQ1 hd1=>?_) ?_
          · refine WO.callM rfl hT' (by repeat (first|exact Rp.here|apply Rp.there)) (fun _ _=>trivial) (by decide) ?_ rfl rfl
            refine WO.nil (WX.vr ?_ hQ1 hd1)
            exact VR.less _ _ ((hA _ _ _ _).1 (hS62))
          exact EachR.nil
        have hS7:A [(32,pt gF),(33,pt gF),(34,numV O),(5,pt g5),(8,pt g8),(9,pt g9),(11,pt q11)] [⟨gF,253,fdC p q g h 0⟩,⟨g9,24,numC O⟩] [true,true,true,false,false,false,false,false] 5:=by
          refine (hA _ _ _ _).2 (VR.step [3,5] ?_)
          refine EachR.cons (fun hQ1 hd1=>?_) ?_
          · refine WO.does (does_loadF s5 (i:=0) rfl b5 (vs:=numC x) rfl rfl) ?_
            refine WO.nil (WX.vr ?_ hQ1 hd1)
            exact VR.less _ _ ((hA _ _ _ _).1 (hS15))
          refine EachR.cons (fun hQ1 hd1=>?_) ?_
          · refine WO.does (does_loadF s11 (i:=0) rfl b11 (vs:=numC yc) rfl rfl) ?_
            refine WO.nil (WX.vr ?_ hQ1 hd1)
            exact VR.less _ _ ((hA _ _ _ _).1 (hS39))
          exact EachR.nil
        have hS11:A [(32,pt gF),(33,pt gF),(35,numV x),(5,pt g5),(8,pt g8),(9,pt g9),(11,pt q11)] [⟨gF,253,fdC p q g h 0⟩,⟨g9,24,numC O⟩] [true,true,false,true,false,false,false,false] 5:=by
          refine (hA _ _ _ _).2 (VR.step [2,5] ?_)
          refine EachR.cons (fun hQ1 hd1=>?_) ?_
          · first|refine Ta ?_|(refine Tm ?_;intro _)|refine Tc ?_
            refine WO.nil (WX.vr ?_ hQ1 hd1)
            exact VR.less _ _ ((hA _ _ _ _).1 (hS15))
          refine EachR.cons (fun hQ1 hd1=>?_) ?_
          · refine WO.does (does_loadF s11 (i:=0) rfl b11 (vs:=numC yc) rfl rfl) ?_
            refine WO.nil (WX.vr ?_ hQ1 hd1)
            exact VR.less _ _ ((hA _ _ _ _).1 (hS43))
          exact EachR.nil
        have hS35:A [(32,pt gF),(33,pt gF),(37,numV yc),(5,pt g5),(8,pt g8),(9,pt g9),(11,pt q11)] [⟨gF,253,fdC p q g h 0⟩,⟨g9,24,numC O⟩] [true,true,false,false,false,true,false,false] 5:=by
          refine (hA _ _ _ _).2 (VR.step [2,3] ?_)
          refine EachR.cons (fun hQ1 hd1=>?_) ?_
          · first|refine Ta ?_|(refine Tm ?_;intro _)|refine Tc ?_
            refine WO.nil (WX.vr ?_ hQ1 hd1)
            exact VR.less _ _ ((hA _ _ _ _).1 (hS39))
          refine EachR.cons (fun hQ1 hd1=>?_) ?_
          · refine WO.does (does_loadF s5 (i:=0) rfl b5 (vs:=numC x) rfl rfl) ?_
            refine WO.nil (WX.vr ?_ hQ1 hd1)
            exact VR.less _ _ ((hA _ _ _ _).1 (hS43))
          exact EachR.nil
        have hS13:A [(32,pt gF),(34,numV O),(35,numV x),(5,pt g5),(8,pt g8),(9,pt g9),(11,pt q11)] [⟨gF,253,fdC p q g h 0⟩,⟨g9,24,numC O⟩] [true,false,true,true,false,false,false,false] 5:=by
          refine (hA _ _ _ _).2 (VR.step [1,5] ?_)
          refine EachR.cons (fun hQ1 hd1=>?_) ?_
          · refine WO.does (does_loadF1 s8 (i:=0) rfl b8 rfl) ?_
            refine WO.nil (WX.vr ?_ hQ1 hd1)
            exact VR.less _ _ ((hA _ _ _ _).1 (hS15))
          refine EachR.cons (fun hQ1 hd1=>?_) ?_
          · refine WO.does (does_loadF s11 (i:=0) rfl b11 (vs:=numC yc) rfl rfl) ?_
            refine WO.nil (WX.vr ?_ hQ1 hd1)
            exact VR.less _ _ ((hA _ _ _ _).1 (hS45))
          exact EachR.nil
        have hS37:A [(32,pt gF),(34,numV O),(37,numV yc),(5,pt g5),(8,pt g8),(9,pt g9),(11,pt q11)] [⟨gF,253,fdC p q g h 0⟩,⟨g9,24,numC O⟩] [true,false,true,false,false,true,false,false] 5:=by
          refine (hA _ _ _ _).2 (VR.step [1,3] ?_)
          refine EachR.cons (fun hQ1 hd1=>?_) ?_
          · refine WO.does (does_loadF1 s8 (i:=0) rfl b8 rfl) ?_
            refine WO.nil (WX.vr ?_ hQ1 hd1)
            exact VR.less _ _ ((hA _ _ _ _).1 (hS39))
          refine EachR.cons (fun hQ1 hd1=>?_) ?_
          · refine WO.does (does_loadF s5 (i:=0) rfl b5 (vs:=numC x) rfl rfl) ?_
            refine WO.nil (WX.vr ?_ hQ1 hd1)
            exact VR.less _ _ ((hA _ _ _ _).1 (hS45))
          exact EachR.nil
        have hS41:A [(32,pt gF),(35,numV x),(37,numV yc),(5,pt g5),(8,pt g8),(9,pt g9),(11,pt q11)] [⟨gF,253,fdC p q g h 0⟩,⟨g9,24,numC O⟩] [true,false,false,true,false,true,false,false] 5:=by
          refine (hA _ _ _ _).2 (VR.step [1,2] ?_)
          refine EachR.cons (fun hQ1 hd1=>?_) ?_
          · refine WO.does (does_loadF1 s8 (i:=0) rfl b8 rfl) ?_
            refine WO.nil (WX.vr ?_ hQ1 hd1)
            exact VR.less _ _ ((hA _ _ _ _).1 (hS43))
          refine EachR.cons (fun hQ1 hd1=>?_) ?_
          · first|refine Ta ?_|(refine Tm ?_;intro _)|refine Tc ?_
            refine WO.nil (WX.vr ?_ hQ1 hd1)
            exact VR.less _ _ ((hA _ _ _ _).1 (hS45))
          exact EachR.nil
        have hS14:A [(33,pt gF),(34,numV O),(35,numV x),(5,pt g5),(8,pt g8),(9,pt g9),(11,pt q11)] [⟨gF,253,fdC p q g h 0⟩,⟨g9,24,numC O⟩] [false,true,true,true,false,false,false,false] 5:=by
          refine (hA _ _ _ _).2 (VR.step [0,4,5] ?_)
          refine EachR.cons (fun hQ1 hd1=>?_) ?_
          · refine WO.does (does_loadF1 s8 (i:=0) rfl b8 rfl) ?_
            refine WO.nil (WX.vr ?_ hQ1 hd1)
            exact VR.less _ _ ((hA _ _ _ _).1 (hS15))
          refine EachR.cons (fun hQ1 hd1=>?_) ?_
          · refine WO.callM rfl hT' (by repeat (first|exact Rp.here|apply Rp.there)) (fun _ _=>trivial) (by decide) ?_ rfl rfl
            refine WO.nil (WX.vr ?_ hQ1 hd1)
            exact VR.less _ _ ((hA _ _ _ _).1 (hS30))
          refine EachR.cons (fun hQ1 hd1=>?_) ?_
          · refine WO.does (does_loadF s11 (i:=0) rfl b11 (vs:=numC yc) rfl rfl) ?_
            refine WO.nil (WX.vr ?_ hQ1 hd1)
            exact VR.less _ _ ((hA _ _ _ _).1 (hS46))
          exact EachR.nil
        have hS38:A [(33,pt gF),(34,numV O),(37,numV yc),(5,pt g5),(8,pt g8),(9,pt g9),(11,pt q11)] [⟨gF,253,fdC p q g h 0⟩,⟨g9,24,numC O⟩] [false,true,true,false,false,true,false,false] 5:=by
          refine (hA _ _ _ _).2 (VR.step [0,3] ?_)
          refine EachR.cons (fun hQ1 hd1=>?_) ?_
          · refine WO.does (does_loadF1 s8 (i:=0) rfl b8 rfl) ?_
            refine WO.nil (WX.vr ?_ hQ1 hd1)
            exact VR.less _ _ ((hA _ _ _ _).1 (hS39))
          refine EachR.cons (fun hQ1 hd1=>?_) ?_
          · refine WO.does (does_loadF s5 (i:=0) rfl b5 (vs:=numC x) rfl rfl) ?_
            refine WO.nil (WX.vr ?_ hQ1 hd1)
            exact VR.less _ _ ((hA _ _ _ _).1 (hS46))
          exact EachR.nil
        have hS42:A [(33,pt gF),(35,numV x),(37,numV yc),(5,pt g5),(8,pt g8),(9,pt g9),(11,pt q11)] [⟨gF,253,fdC p q g h 0⟩,⟨g9,24,numC O⟩] [false,true,false,true,false,true,false,false] 5:=by
          refine (hA _ _ _ _).2 (VR.step [0,2] ?_)
          refine EachR.cons (fun hQ1 hd1=>?_) ?_
          · refine WO.does (does_loadF1 s8 (i:=0) rfl b8 rfl) ?_
            refine WO.nil (WX.vr ?_ hQ1 hd1)
            exact VR.less _ _ ((hA _ _ _ _).1 (hS43))
          refine EachR.cons (fun hQ1 hd1=>?_) ?_
          · first|refine Ta ?_|(refine Tm ?_;intro _)|refine Tc ?_
            refine WO.nil (WX.vr ?_ hQ1 hd1)
            exact VR.less _ _ ((hA _ _ _ _).1 (hS46))
          exact EachR.nil
        have hS44:A [(34,numV O),(35,numV x),(37,numV yc),(5,pt g5),(8,pt g8),(9,pt g9),(11,pt q11)] [⟨gF,253,fdC p q g h 0⟩,⟨g9,24,numC O⟩] [false,false,true,true,false,true,false,false] 5:=by
          refine (hA _ _ _ _).2 (VR.step [0,1] ?_)
          refine EachR.cons (fun hQ1 hd1=>?_) ?_
          · refine WO.does (does_loadF1 s8 (i:=0) rfl b8 rfl) ?_
            refine WO.nil (WX.vr ?_ hQ1 hd1)
            exact VR.less _ _ ((hA _ _ _ _).1 (hS45))
          refine EachR.cons (fun hQ1 hd1=>?_) ?_
          · refine WO.does (does_loadF1 s8 (i:=0) rfl b8 rfl) ?_
            refine WO.nil (WX.vr ?_ hQ1 hd1)
            exact VR.less _ _ ((hA _ _ _ _).1 (hS46))
          exact EachR.nil
        have hS3:A [(32,pt gF),(33,pt gF),(5,pt g5),(8,pt g8),(9,pt g9),(11,pt q11)] [⟨gF,253,fdC p q g h 0⟩,⟨g9,24,numC O⟩] [true,true,false,false,false,false,false,false] 6:=by
          refine (hA _ _ _ _).2 (VR.step [2,3,5] ?_)
          refine EachR.cons (fun hQ1 hd1=>?_) ?_
          · first|refine Ta ?_|(refine Tm ?_;intro _)|refine Tc ?_
            refine WO.nil (WX.vr ?_ hQ1 hd1)
            exact VR.less _ _ ((hA _ _ _ _).1 (hS7))
          refine EachR.cons (fun hQ1 hd1=>?_) ?_
          · refine WO.does (does_loadF s5 (i:=0) rfl b5 (vs:=numC x) rfl rfl) ?_
            refine WO.nil (WX.vr ?_ hQ1 hd1)
            exact VR.less _ _ ((hA _ _ _ _).1 (hS11))
          refine EachR.cons (fun hQ1 hd1=>?_) ?_
          · refine WO.does (does_loadF s11 (i:=0) rfl b11 (vs:=numC yc) rfl rfl) ?_
            refine WO.nil (WX.vr ?_ hQ1 hd1)
            exact VR.less _ _ ((hA _ _ _ _).1 (hS35))
          exact EachR.nil
        have hS5:A [(32,pt gF),(34,numV O),(5,pt g5),(8,pt g8),(9,pt g9),(11,pt q11)] [⟨gF,253,fdC p q g h 0⟩,⟨g9,24,numC O⟩] [true,false,true,false,false,false,false,false] 6:=by
          refine (hA _ _ _ _).2 (VR.step [1,3,5] ?_)
          refine EachR.cons (fun hQ1 hd1=>?_) ?_
          · refine WO.does (does_loadF1 s8 (i:=0) rfl b8 rfl) ?_
            refine WO.nil (WX.vr ?_ hQ1 hd1)
            exact VR.less _ _ ((hA _ _ _ _).1 (hS7))
          refine EachR.cons (fun hQ1 hd1=>?_) ?_
          · refine WO.does (does_loadF s5 (i:=0) rfl b5 (vs:=numC x) rfl rfl) ?_
            refine WO.nil (WX.vr ?_ hQ1 hd1)
            exact VR.less _ _ ((hA _ _ _ _).1 (hS13))
          refine EachR.cons (fun hQ1 hd1=>?_) ?_
          · refine WO.does (does_loadF s11 (i:=0) rfl b11 (vs:=numC yc) rfl rfl) ?_
            refine WO.nil (WX.vr ?_ hQ1 hd1)
            exact VR.less _ _ ((hA _ _ _ _).1 (hS37))
          exact EachR.nil
        have hS9:A [(32,pt gF),(35,numV x),(5,pt g5),(8,pt g8),(9,pt g9),(11,pt q11)] [⟨gF,253,fdC p q g h 0⟩,⟨g9,24,numC O⟩] [true,false,false,true,false,false,false,false] 6:=by
          refine (hA _ _ _ _).2 (VR.step [1,2,5] ?_)
          refine EachR.cons (fun hQ1 hd1=>?_) ?_
          · refine WO.does (does_loadF1 s8 (i:=0) rfl b8 rfl) ?_
            refine WO.nil (WX.vr ?_ hQ1 hd1)
            exact VR.less _ _ ((hA _ _ _ _).1 (hS11))
          refine EachR.cons (fun hQ1 hd1=>?_) ?_
          · first|refine Ta ?_|(refine Tm ?_;intro _)|refine Tc ?_
            refine WO.nil (WX.vr ?_ hQ1 hd1)
            exact VR.less _ _ ((hA _ _ _ _).1 (hS13))
          refine EachR.cons (fun hQ1 hd1=>?_) ?_
          · refine WO.does (does_loadF s11 (i:=0) rfl b11 (vs:=numC yc) rfl rfl) ?_
            refine WO.nil (WX.vr ?_ hQ1 hd1)
            exact VR.less _ _ ((hA _ _ _ _).1 (hS41))
          exact EachR.nil
        have hS33:A [(32,pt gF),(37,numV yc),(5,pt g5),(8,pt g8),(9,pt g9),(11,pt q11)] [⟨gF,253,fdC p q g h 0⟩,⟨g9,24,numC O⟩] [true,false,false,false,false,true,false,false] 6:=by
          refine (hA _ _ _ _).2 (VR.step [1,2,3] ?_)
          refine EachR.cons (fun hQ1 hd1=>?_) ?_
          · refine WO.does (does_loadF1 s8 (i:=0) rfl b8 rfl) ?_
            refine WO.nil (WX.vr ?_ hQ1 hd1)
            exact VR.less _ _ ((hA _ _ _ _).1 (hS35))
          refine EachR.cons (fun hQ1 hd1=>?_) ?_
          · first|refine Ta ?_|(refine Tm ?_;intro _)|refine Tc ?_
            refine WO.nil (WX.vr ?_ hQ1 hd1)
            exact VR.less _ _ ((hA _ _ _ _).1 (hS37))
          refine EachR.cons (fun hQ1 hd1=>?_) ?_
          · refine WO.does (does_loadF s5 (i:=0) rfl b5 (vs:=numC x) rfl rfl) ?_
            refine WO.nil (WX.vr ?_ hQ1 hd1)
            exact VR.less _ _ ((hA _ _ _ _).1 (hS41))
          exact EachR.nil
        have hS6:A [(33,pt gF),(34,numV O),(5,pt g5),(8,pt g8),(9,pt g9),(11,pt q11)] [⟨gF,253,fdC p q g h 0⟩,⟨g9,24,numC O⟩] [false,true,true,false,false,false,false,false] 6:=by
          refine (hA _ _ _ _).2 (VR.step [0,3,5] ?_)
          refine EachR.cons (fun hQ1 hd1=>?_) ?_
          · refine WO.does (does_loadF1 s8 (i:=0) rfl b8 rfl) ?_
            refine WO.nil (WX.vr ?_ hQ1 hd1)
            exact VR.less _ _ ((hA _ _ _ _).1 (hS7))
          refine EachR.cons (fun hQ1 hd1=>?_) ?_
          · refine WO.does (does_loadF s5 (i:=0) rfl b5 (vs:=numC x) rfl rfl) ?_
            refine WO.nil (WX.vr ?_ hQ1 hd1)
            exact VR.less _ _ ((hA _ _ _ _).1 (hS14))
          refine EachR.cons (fun hQ1 hd1=>?_) ?_
          · refine WO.does (does_loadF s11 (i:=0) rfl b11 (vs:=numC yc) rfl rfl) ?_
            refine WO.nil (WX.vr ?_ hQ1 hd1)
            exact VR.less _ _ ((hA _ _ _ _).1 (hS38))
          exact EachR.nil
        have hS10:A [(33,pt gF),(35,numV x),(5,pt g5),(8,pt g8),(9,pt g9),(11,pt q11)] [⟨gF,253,fdC p q g h 0⟩,⟨g9,24,numC O⟩] [false,true,false,true,false,false,false,false] 6:=by
          refine (hA _ _ _ _).2 (VR.step [0,2,5] ?_)
          refine EachR.cons (fun hQ1 hd1=>?_) ?_
          · refine WO.does (does_loadF1 s8 (i:=0) rfl b8 rfl) ?_
            refine WO.nil (WX.vr ?_ hQ1 hd1)
            exact VR.less _ _ ((hA _ _ _ _).1 (hS11))
          refine EachR.cons (fun hQ1 hd1=>?_) ?_
          · first|refine Ta ?_|(refine Tm ?_;intro _)|refine Tc ?_
            refine WO.nil (WX.vr ?_ hQ1 hd1)
            exact VR.less _ _ ((hA _ _ _ _).1 (hS14))
          refine EachR.cons (fun hQ1 hd1=>?_) ?_
          · refine WO.does (does_loadF s11 (i:=0) rfl b11 (vs:=numC yc) rfl rfl) ?_
            refine WO.nil (WX.vr ?_ hQ1 hd1)
            exact VR.less _ _ ((hA _ _ _ _).1 (hS42))
          exact EachR.nil
        have hS34:A [(33,pt gF),(37,numV yc),(5,pt g5),(8,pt g8),(9,pt g9),(11,pt q11)] [⟨gF,253,fdC p q g h 0⟩,⟨g9,24,numC O⟩] [false,true,false,false,false,true,false,false] 6:=by
          refine (hA _ _ _ _).2 (VR.step [0,2,3] ?_)
          refine EachR.cons (fun hQ1 hd1=>?_) ?_
          · refine WO.does (does_loadF1 s8 (i:=0) rfl b8 rfl) ?_
            refine WO.nil (WX.vr ?_ hQ1 hd1)
            exact VR.less _ _ ((hA _ _ _ _).1 (hS35))
          refine EachR.cons (fun hQ1 hd1=>?_) ?_
          · first|refine Ta ?_|(refine Tm ?_;intro _)|refine Tc ?_
            refine WO.nil (WX.vr ?_ hQ1 hd1)
            exact VR.less _ _ ((hA _ _ _ _).1 (hS38))
          refine EachR.cons (fun hQ1 hd1=>?_) ?_
          · refine WO.does (does_loadF s5 (i:=0) rfl b5 (vs:=numC x) rfl rfl) ?_
            refine WO.nil (WX.vr ?_ hQ1 hd1)
            exact VR.less _ _ ((hA _ _ _ _).1 (hS42))
          exact EachR.nil
        have hS12:A [(34,numV O),(35,numV x),(5,pt g5),(8,pt g8),(9,pt g9),(11,pt q11)] [⟨gF,253,fdC p q g h 0⟩,⟨g9,24,numC O⟩] [false,false,true,true,false,false,false,false] 6:=by
          refine (hA _ _ _ _).2 (VR.step [0,1,5] ?_)
          refine EachR.cons (fun hQ1 hd1=>?_) ?_
          · refine WO.does (does_loadF1 s8 (i:=0) rfl b8 rfl) ?_
            refine WO.nil (WX.vr ?_ hQ1 hd1)
            exact VR.less _ _ ((hA _ _ _ _).1 (hS13))
          refine EachR.cons (fun hQ1 hd1=>?_) ?_
          · refine WO.does (does_loadF1 s8 (i:=0) rfl b8 rfl) ?_
            refine WO.nil (WX.vr ?_ hQ1 hd1)
            exact VR.less _ _ ((hA _ _ _ _).1 (hS14))
          refine EachR.cons (fun hQ1 hd1=>?_) ?_
          · refine WO.does (does_loadF s11 (i:=0) rfl b11 (vs:=numC yc) rfl rfl) ?_
            refine WO.nil (WX.vr ?_ hQ1 hd1)
            exact VR.less _ _ ((hA _ _ _ _).1 (hS44))
          exact EachR.nil
        have hS36:A [(34,numV O),(37,numV yc),(5,pt g5),(8,pt g8),(9,pt g9),(11,pt q11)] [⟨gF,253,fdC p q g h 0⟩,⟨g9,24,numC O⟩] [false,false,true,false,false,true,false,false] 6:=by
          refine (hA _ _ _ _).2 (VR.step [0,1,3] ?_)
          refine EachR.cons (fun hQ1 hd1=>?_) ?_
          · refine WO.does (does_loadF1 s8 (i:=0) rfl b8 rfl) ?_
            refine WO.nil (WX.vr ?_ hQ1 hd1)
            exact VR.less _ _ ((hA _ _ _ _).1 (hS37))
          refine EachR.cons (fun hQ1 hd1=>?_) ?_
          · refine WO.does (does_loadF1 s8 (i:=0) rfl b8 rfl) ?_
            refine WO.nil (WX.vr ?_ hQ1 hd1)
            exact VR.less _ _ ((hA _ _ _ _).1 (hS38))
          refine EachR.cons (fun hQ1 hd1=>?_) ?_
          · refine WO.does (does_loadF s5 (i:=0) rfl b5 (vs:=numC x) rfl rfl) ?_
            refine WO.nil (WX.vr ?_ hQ1 hd1)
            exact VR.less _ _ ((hA _ _ _ _).1 (hS44))
          exact EachR.nil
        have hS40:A [(35,numV x),(37,numV yc),(5,pt g5),(8,pt g8),(9,pt g9),(11,pt q11)] [⟨gF,253,fdC p q g h 0⟩,⟨g9,24,numC O⟩] [false,false,false,true,false,true,false,false] 6:=by
          refine (hA _ _ _ _).2 (VR.step [0,1,2] ?_)
          refine EachR.cons (fun hQ1 hd1=>?_) ?_
          · refine WO.does (does_loadF1 s8 (i:=0) rfl b8 rfl) ?_
            refine WO.nil (WX.vr ?_ hQ1 hd1)
            exact VR.less _ _ ((hA _ _ _ _).1 (hS41))
          refine EachR.cons (fun hQ1 hd1=>?_) ?_
          · refine WO.does (does_loadF1 s8 (i:=0) rfl b8 rfl) ?_
            refine WO.nil (WX.vr ?_ hQ1 hd1)
            exact VR.less _ _ ((hA _ _ _ _).1 (hS42))
          refine EachR.cons (fun hQ1 hd1=>?_) ?_
          · first|refine Ta ?_|(refine Tm ?_;intro _)|refine Tc ?_
            refine WO.nil (WX.vr ?_ hQ1 hd1)
            exact VR.less _ _ ((hA _ _ _ _).1 (hS44))
          exact EachR.nil
        have hS1:A [(32,pt gF),(5,pt g5),(8,pt g8),(9,pt g9),(11,pt q11)] [⟨gF,253,fdC p q g h 0⟩,⟨g9,24,numC O⟩] [true,false,false,false,false,false,false,false] 7:=by
          refine (hA _ _ _ _).2 (VR.step [1,2,3,5] ?_)
          refine EachR.cons (fun hQ1 hd1=>?_) ?_
          · refine WO.does (does_loadF1 s8 (i:=0) rfl b8 rfl) ?_
            refine WO.nil (WX.vr ?_ hQ1 hd1)
            exact VR.less _ _ ((hA _ _ _ _).1 (hS3))
          refine EachR.cons (fun hQ1 hd1=>?_) ?_
          · first|refine Ta ?_|(refine Tm ?_;intro _)|refine Tc ?_
            refine WO.nil (WX.vr ?_ hQ1 hd1)
            exact VR.less _ _ ((hA _ _ _ _).1 (hS5))
          refine EachR.cons (fun hQ1 hd1=>?_) ?_
          · refine WO.does (does_loadF s5 (i:=0) rfl b5 (vs:=numC x) rfl rfl) ?_
            refine WO.nil (WX.vr ?_ hQ1 hd1)
            exact VR.less _ _ ((hA _ _ _ _).1 (hS9))
          refine EachR.cons (fun hQ1 hd1=>?_) ?_
          · refine WO.does (does_loadF s11 (i:=0) rfl b11 (vs:=numC yc) rfl rfl) ?_
            refine WO.nil (WX.vr ?_ hQ1 hd1)
            exact VR.less _ _ ((hA _ _ _ _).1 (hS33))
          exact EachR.nil
        have hS2:A [(33,pt gF),(5,pt g5),(8,pt g8),(9,pt g9),(11,pt q11)] [⟨gF,253,fdC p q g h 0⟩,⟨g9,24,numC O⟩] [false,true,false,false,false,false,false,false] 7:=by
          refine (hA _ _ _ _).2 (VR.step [0,2,3,5] ?_)
          refine EachR.cons (fun hQ1 hd1=>?_) ?_
          · refine WO.does (does_loadF1 s8 (i:=0) rfl b8 rfl) ?_
            refine WO.nil (WX.vr ?_ hQ1 hd1)
            exact VR.less _ _ ((hA _ _ _ _).1 (hS3))
          refine EachR.cons (fun hQ1 hd1=>?_) ?_
          · first|refine Ta ?_|(refine Tm ?_;intro _)|refine Tc ?_
            refine WO.nil (WX.vr ?_ hQ1 hd1)
            exact VR.less _ _ ((hA _ _ _ _).1 (hS6))
          refine EachR.cons (fun hQ1 hd1=>?_) ?_
          · refine WO.does (does_loadF s5 (i:=0) rfl b5 (vs:=numC x) rfl rfl) ?_
            refine WO.nil (WX.vr ?_ hQ1 hd1)
            exact VR.less _ _ ((hA _ _ _ _).1 (hS10))
          refine EachR.cons (fun hQ1 hd1=>?_) ?_
          · refine WO.does (does_loadF s11 (i:=0) rfl b11 (vs:=numC yc) rfl rfl) ?_
            refine WO.nil (WX.vr ?_ hQ1 hd1)
            exact VR.less _ _ ((hA _ _ _ _).1 (hS34))
          exact EachR.nil
        have hS4:A [(34,numV O),(5,pt g5),(8,pt g8),(9,pt g9),(11,pt q11)] [⟨gF,253,fdC p q g h 0⟩,⟨g9,24,numC O⟩] [false,false,true,false,false,false,false,false] 7:=by
          refine (hA _ _ _ _).2 (VR.step [0,1,3,5] ?_)
          refine EachR.cons (fun hQ1 hd1=>?_) ?_
          · refine WO.does (does_loadF1 s8 (i:=0) rfl b8 rfl) ?_
            refine WO.nil (WX.vr ?_ hQ1 hd1)
            exact VR.less _ _ ((hA _ _ _ _).1 (hS5))
          refine EachR.cons (fun hQ1 hd1=>?_) ?_
          · refine WO.does (does_loadF1 s8 (i:=0) rfl b8 rfl) ?_
            refine WO.nil (WX.vr ?_ hQ1 hd1)
            exact VR.less _ _ ((hA _ _ _ _).1 (hS6))
          refine EachR.cons (fun hQ1 hd1=>?_) ?_
          · refine WO.does (does_loadF s5 (i:=0) rfl b5 (vs:=numC x) rfl rfl) ?_
            refine WO.nil (WX.vr ?_ hQ1 hd1)
            exact VR.less _ _ ((hA _ _ _ _).1 (hS12))
          refine EachR.cons (fun hQ1 hd1=>?_) ?_
          · refine WO.does (does_loadF s11 (i:=0) rfl b11 (vs:=numC yc) rfl rfl) ?_
            refine WO.nil (WX.vr ?_ hQ1 hd1)
            exact VR.less _ _ ((hA _ _ _ _).1 (hS36))
          exact EachR.nil
        have hS8:A [(35,numV x),(5,pt g5),(8,pt g8),(9,pt g9),(11,pt q11)] [⟨gF,253,fdC p q g h 0⟩,⟨g9,24,numC O⟩] [false,false,false,true,false,false,false,false] 7:=by
          refine (hA _ _ _ _).2 (VR.step [0,1,2,5] ?_)
          refine EachR.cons (fun hQ1 hd1=>?_) ?_
          · refine WO.does (does_loadF1 s8 (i:=0) rfl b8 rfl) ?_
            refine WO.nil (WX.vr ?_ hQ1 hd1)
            exact VR.less _ _ ((hA _ _ _ _).1 (hS9))
          refine EachR.cons (fun hQ1 hd1=>?_) ?_
          · refine WO.does (does_loadF1 s8 (i:=0) rfl b8 rfl) ?_
            refine WO.nil (WX.vr ?_ hQ1 hd1)
            exact VR.less _ _ ((hA _ _ _ _).1 (hS10))
          refine EachR.cons (fun hQ1 hd1=>?_) ?_
          · first|refine Ta ?_|(refine Tm ?_;intro _)|refine Tc ?_
            refine WO.nil (WX.vr ?_ hQ1 hd1)
            exact VR.less _ _ ((hA _ _ _ _).1 (hS12))
          refine EachR.cons (fun hQ1 hd1=>?_) ?_
          · refine WO.does (does_loadF s11 (i:=0) rfl b11 (vs:=numC yc) rfl rfl) ?_
            refine WO.nil (WX.vr ?_ hQ1 hd1)
            exact VR.less _ _ ((hA _ _ _ _).1 (hS40))
          exact EachR.nil
        have hS32:A [(37,numV yc),(5,pt g5),(8,pt g8),(9,pt g9),(11,pt q11)] [⟨gF,253,fdC p q g h 0⟩,⟨g9,24,numC O⟩] [false,false,false,false,false,true,false,false] 7:=by
          refine (hA _ _ _ _).2 (VR.step [0,1,2,3] ?_)
          refine EachR.cons (fun hQ1 hd1=>?_) ?_
          · refine WO.does (does_loadF1 s8 (i:=0) rfl b8 rfl) ?_
            refine WO.nil (WX.vr ?_ hQ1 hd1)
            exact VR.less _ _ ((hA _ _ _ _).1 (hS33))
          refine EachR.cons (fun hQ1 hd1=>?_) ?_
          · refine WO.does (does_loadF1 s8 (i:=0) rfl b8 rfl) ?_
            refine WO.nil (WX.vr ?_ hQ1 hd1)
            exact VR.less _ _ ((hA _ _ _ _).1 (hS34))
          refine EachR.cons (fun hQ1 hd1=>?_) ?_
          · first|refine Ta ?_|(refine Tm ?_;intro _)|refine Tc ?_
            refine WO.nil (WX.vr ?_ hQ1 hd1)
            exact VR.less _ _ ((hA _ _ _ _).1 (hS36))
          refine EachR.cons (fun hQ1 hd1=>?_) ?_
          · refine WO.does (does_loadF s5 (i:=0) rfl b5 (vs:=numC x) rfl rfl) ?_
            refine WO.nil (WX.vr ?_ hQ1 hd1)
            exact VR.less _ _ ((hA _ _ _ _).1 (hS40))
          exact EachR.nil
        have hS0:A [(5,pt g5),(8,pt g8),(9,pt g9),(11,pt q11)] [⟨gF,253,fdC p q g h 0⟩,⟨g9,24,numC O⟩] [false,false,false,false,false,false,false,false] 8:=by
          refine (hA _ _ _ _).2 (VR.step [0,1,2,3,5] ?_)
          refine EachR.cons (fun hQ1 hd1=>?_) ?_
          · refine WO.does (does_loadF1 s8 (i:=0) rfl b8 rfl) ?_
            refine WO.nil (WX.vr ?_ hQ1 hd1)
            exact VR.less _ _ ((hA _ _ _ _).1 (hS1))
          refine EachR.cons (fun hQ1 hd1=>?_) ?_
          · refine WO.does (does_loadF1 s8 (i:=0) rfl b8 rfl) ?_
            refine WO.nil (WX.vr ?_ hQ1 hd1)
            exact VR.less _ _ ((hA _ _ _ _).1 (hS2))
          refine EachR.cons (fun hQ1 hd1=>?_) ?_
          · first|refine Ta ?_|(refine Tm ?_;intro _)|refine Tc ?_
            refine WO.nil (WX.vr ?_ hQ1 hd1)
            exact VR.less _ _ ((hA _ _ _ _).1 (hS4))
          refine EachR.cons (fun hQ1 hd1=>?_) ?_
          · refine WO.does (does_loadF s5 (i:=0) rfl b5 (vs:=numC x) rfl rfl) ?_
            refine WO.nil (WX.vr ?_ hQ1 hd1)
            exact VR.less _ _ ((hA _ _ _ _).1 (hS8))
          refine EachR.cons (fun hQ1 hd1=>?_) ?_
          · refine WO.does (does_loadF s11 (i:=0) rfl b11 (vs:=numC yc) rfl rfl) ?_
            refine WO.nil (WX.vr ?_ hQ1 hd1)
            exact VR.less _ _ ((hA _ _ _ _).1 (hS32))
          exact EachR.nil
        exact (hA _ _ _ _).2 (VR.less _ _ ((hA _ _ _ _).1 hS0))
      exact hC
    refine VR.done ?_
    refine WX.blk_normal ?_
    intro a2 W2 f1 f2 f3 f4
    refine⟨⟨f4.mod.size,fun k o hk0 hk _=>(f4.mod.block k (Array.getElem?_eq_some_iff.1 hk).1 (by simp;omega)).trans hk⟩,⟨KeepB.of_mod f4.mod (fun k hk=>⟨Nat.lt_of_lt_of_le (hks k hk).1 hIs,by simpa using (hks k hk).2⟩),f4.mod.size⟩,?_,Nat.le_trans hIs f4.mod.size⟩
    rw[hRR.out]
    exact Me.callL (M:=[⟨gF,253,fdC p q g h 0⟩,⟨g9,24,numC O⟩]) hI f4
  case done =>
    rintro D ys W hD rfl ⟨hI,hIs⟩ hK
    have i9:=hI.ok ⟨g9,_,_⟩ (Hs.mem (by repeat (first|exact Hs.here|apply Hs.there)))
    have i6:=hI.ok ⟨g6,_,_⟩ (Hs.mem (by repeat (first|exact Hs.here|apply Hs.there)))
    have s9:=i9.seg 0
    simp only[List.drop_zero] at s9
    have b9:g9 ∉ [g6]:=by simp;exact hne8
    have hm0:Me W [g6] [⟨g6,24,numC 0⟩] W:=⟨.refl _ _,by simpa using i6,by simp,by simp⟩
    have hlD:D<W.heap.size:=(Array.getElem?_eq_some_iff.1 hK).1
    refine WO.tail (w0:=W) (gs:=[g6]) (n:=40) (K:=[(6,pt g6),(9,pt g9)]) (L:=[⟨g6,24,numC 0⟩]) rfl d2 (Kle.kn d3 (by repeat (first|exact Kle.nil|refine Kle.cons rfl rfl ?_))) hm0 ?_
    repeat (first|refine WO.does (a_loadF (hs:=s9) (hb:=b9)) ?_|refine Ta ?_|(refine Tm ?_;intro _)|refine Tc ?_|exact Tz)
    intro a2 W2 f1 f2 f3 f4
    have hK2:W2.heap[D]?=some (.deferred (some [])):=(f4.mod.block D hlD (by simp;omega)).trans hK
    refine wp_ret ?_
    have hdf:(dfA ({ target:=.collected D,args:=#[] }::a.defers) a2).defers=[{ target:=.collected D,args:=#[] }]:=by simp[dfA,f1,d1]
    show LeavesInM Fence.wide 3 Tryz.prog Tryz.f207 a2.tmps _ (dfA ({ target:=.collected D,args:=#[] }::a.defers) a2).defers .returning W2
    rw[hdf]
    refine⟨by simp,.inl ⟨_,_,rfl,run_takeDeferred hK2,?_⟩⟩
    have f6:=f4.ok ⟨g6,_,_⟩ (Hs.mem (by repeat (first|exact Hs.here|apply Hs.there)))
    have hB:Below w.heap.size w W2:=⟨f4.mod.os.trans hI.mod.os,f4.mod.tape.trans hI.mod.tape,f4.mod.output.trans hI.mod.output,Nat.le_trans hI.mod.size f4.mod.size,fun k hk=>(f4.mod.block k (Nat.lt_of_lt_of_le hk hI.mod.size) (by simp;omega)).trans (hI.mod.block k hk (by simp))⟩
    have hB3:=hB.trans (belowK_b (w:=w) (Nat.le_refl _) W2 D _ (.deferred none) (by omega) hK2 rfl rfl)
    have p6:=f6.keep (w':=W2.putObj D (.deferred none)) (World.putObj_heap_other (by show g6≠D;omega))
    generalize W2.putObj D (.deferred none)=W3 at *
    have hm3:Me W3 [g6] _ W3:=⟨.refl _ _,fun e he=>(List.mem_singleton.1 he) ▸ p6,by simp,by simp⟩
    have h:=mapM2 (P:=Tryz.prog) (rv_cell (P:=Tryz.prog) (p:=6) (t:=24) (K:=[(7,.int .i64 0),(6,pt g6)]) rfl Hs.here (vs:=numC (hornF q x ys)) rfl rfl a2 W3 (Kle.kn f3 (by repeat (first|exact Kle.nil|refine Kle.cons rfl rfl ?_))) hm3) (rv_tmp (P:=Tryz.prog) (K:=[(7,.int .i64 0),(6,pt g6)]) (t:=7) rfl a2 W3 (Kle.kn f3 (by repeat (first|exact Kle.nil|refine Kle.cons rfl rfl ?_))) hm3)
    refine⟨.tuple #[numV (hornF q x ys),.int .i64 0],?_,_,[],rfl,hB3,News.nil _ _,rfl⟩
    rw[results_eq,show Tryz.f207.results=#[.cell 6 24,.tmp 7] from rfl,Sem.run_bind,h];rfl
  case stop =>
    rintro D c pre W _ _ h _
    exact h.elim
end
end Sx
end Go.Proofs.YtiiacjladnljhaaGreatDoor
