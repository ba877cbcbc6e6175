/- Part 21 of the proof: GpB, SxY, ShF, ShH, ShI, ShJ, ShK, NuA, NuB, NuC, NuD, NuE, ShL, ShM, ShN, PrA, PrB, EqA -/
import Derived.Test.YtiiacjladnljhaaGreatDoorM20
import Derived.Test.YtiiacjladnljhaaGreatDoorM18
import Derived.Test.YtiiacjladnljhaaGreatDoorM17
import Derived.Test.YtiiacjladnljhaaGreatDoorM10
import Derived.Test.YtiiacjladnljhaaGreatDoorM09
import Derived.Test.YtiiacjladnljhaaGreatDoorM19
import Derived.RangeFuncLeaves
import Derived.LoopN
import Derived.Laws.StructEq
import Derived.DeepKeys
set_option linter.unusedSimpArgs false
set_option linter.unusedVariables false
namespace Go.Proofs.YtiiacjladnljhaaGreatDoor
open Go Go.RowKit Go.BigFrame
namespace Sx
def KpB (ks:List Nat) (A B:World):Prop:=KeepB ks A B∧A.heap.size≤B.heap.size
theorem KpB.trans {ks:List Nat} {A B C:World} (h:KpB ks A B) (k:KpB ks B C):KpB ks A C:=⟨h.1.trans k.1,Nat.le_trans h.2 k.2⟩
theorem KpB.put {ks:List Nat} {n:Nat} (hk:∀ k∈ks,k<n) (W:World) (l:Nat) (o o' : Obj) (hl:n≤l) (h1:W.heap[l]?=some o) (h2:o.isCells=false) (h3:o.isWalk=false):KpB ks W (W.putObj l o'):=⟨KeepB.put hk W l o o' hl h1 h2 h3,by simp⟩
theorem pairs_stops (m:Nat) {α:Type} (fa fn:α→Nat) (xs:List α) (gA gN bA oA bN oN cA cN:Nat) (hn:xs.length≤1099511627776) (w:World) (hlt:∀ k∈[gA,gN,bA,bN],k<w.heap.size)
    (hA:Seg w gA 0 [.slice (some ⟨bA,oA,none⟩) xs.length cA]) (hN:Seg w gN 0 [.slice (some ⟨bN,oN,none⟩) xs.length cN]) (hSA:∀ k x,xs[k]?=some x→Seg w bA (oA+k*4) (numC (fa x))) (hSN:∀ k x,xs[k]?=some x→Seg w bN (oN+k*4) (numC (fn x))) :
    SeqStopsK Fence.wide m Tryz.prog 237 #[pt gA,pt gN] (fun x:α=>#[numV (fa x),numV (fn x)]) (KpB [gA,gN,bA,bN]) (fun ys=>ys=xs) (fun _=>True) xs.length w:=fun l J Jx W hW hJ hJx hY h0=>by
  have hk:KeepB [gA,gN,bA,bN] w W:=fun k hk=>hW.block k (hlt k hk)
  refine pairs_in m fa fn xs gA gN bA oA bN oN cA cN l J Jx hn (fun s A B h hm=>hJ s A B none h ⟨hm.os,hm.tape,hm.output,hm.size,fun k hk _=>hm.block k hk (by simp)⟩ (by simp)) (fun s A B h hm=>hJx s A B none h ⟨hm.os,hm.tape,hm.output,hm.size,fun k hk _=>hm.block k hk (by simp)⟩ (by simp))
    hY W (hk.seg (by simp) hA) (hk.seg (by simp) hN) (fun k x h=>hk.seg (by simp) (hSA k x h)) (fun k x h=>hk.seg (by simp) (hSN k x h)) (fun k hk=>Nat.lt_of_lt_of_le (hlt k hk) hW.size) h0
abbrev PwT (p:Nat):Type:={ x:Nat × Nat // x.1<B256∧x.2<B256∧gMay p x.1=true }
def prodN (p:Nat) (l:List (PwT p)):Nat:=l.foldl (fun r x=>r*(x.1.1 ^ x.1.2%p)%p) 1
theorem prodN_snoc (p:Nat) (l:List (PwT p)) (x:PwT p):prodN p (l++[x])=prodN p l*(x.1.1 ^ x.1.2%p)%p:=by unfold prodN;rw[List.foldl_append];rfl
theorem prodN_lt {p:Nat} (h:1<p) (l:List (PwT p)):prodN p l<p:=by
  rcases List.eq_nil_or_concat l with rfl|⟨l,x,rfl⟩
  · exact h
  · rw[List.concat_eq_append,prodN_snoc];exact Nat.mod_lt _ (by omega)
set_option maxHeartbeats 2000000 in
theorem c_Product (p q g h:Nat) (hp:p<B256) (h1:1<p) (xs:List (PwT p)) (bA oA bN oN cA cN:Nat) (hn:xs.length≤1099511627776) :
    Fn Tryz.prog 108 [grpV p q g h,.slice (some ⟨bA,oA,none⟩) xs.length cA,.slice (some ⟨bN,oN,none⟩) xs.length cN]
      (fun w=>bA<w.heap.size∧bN<w.heap.size∧(∀ (k:Nat) (x:PwT p),xs[k]?=some x→Seg w bA (oA+k*4) (numC x.1.1))∧(∀ (k:Nat) (x:PwT p),xs[k]?=some x→Seg w bN (oN+k*4) (numC x.1.2))) (Is (.tuple #[numV (prodN p xs),.int .i64 0])):=by
  intro w ⟨hbA,hbN,hSA,hSN⟩
  have hC:=c_Cmp p 1 hp B256_one'
  rw[cmpN_gt h1] at hC
  have hPr:=c_pairs (some ⟨bA,oA,none⟩) (some ⟨bN,oN,none⟩) xs.length xs.length cA cN
  refine calls_enterM (n:=52) 3 Tryz.func108 rfl rfl rfl ?_
  repeat (first|refine Ta ?_|(refine Tm ?_;intro _)|refine WO.acall (hc:=c_Of1) (k:=?_)|refine WO.acall (hc:=hC) (k:=?_)|refine WO.acallX (hc:=hPr) (hR:=fun _ _=>trivial) (k:=fun s _=>?_)|refine Tc ?_|exact Tz)
  rename_i g3 g6 g7 g8
  refine WC.condF (show some (Value.bool (decide ((xs.length:Int)≠(xs.length:Int))))=some (Value.bool false) by simp) ?_
  repeat (first|refine Ta ?_|(refine Tm ?_;intro _)|refine WO.acallX (hc:=hPr) (hR:=fun _ _=>trivial) (k:=fun s _=>?_)|refine Tc ?_|exact Tz)
  generalize s 0=gA
  generalize s 1=gN
  refine WC.ndp' (fun hnd=>?_)
  refine WC.mine (fun hmn=>?_)
  simp only[List.map_append,List.map_cons,List.map_nil,List.cons_append,List.nil_append] at hnd hmn
  intro a w1 d1 d2 d3 d4
  have l3:=(d4.ok ⟨g3,_,_⟩ (Hs.mem (by repeat (first|exact Hs.here|apply Hs.there)))).lt
  have l6:=(d4.ok ⟨g6,_,_⟩ (Hs.mem (by repeat (first|exact Hs.here|apply Hs.there)))).lt
  have l7:=(d4.ok ⟨g7,_,_⟩ (Hs.mem (by repeat (first|exact Hs.here|apply Hs.there)))).lt
  have l8:=(d4.ok ⟨g8,_,_⟩ (Hs.mem (by repeat (first|exact Hs.here|apply Hs.there)))).lt
  have lA:=(d4.ok ⟨gA,_,_⟩ (Hs.mem (by repeat (first|exact Hs.here|apply Hs.there)))).lt
  have lN:=(d4.ok ⟨gN,_,_⟩ (Hs.mem (by repeat (first|exact Hs.here|apply Hs.there)))).lt
  have sA:=(d4.ok ⟨gA,_,_⟩ (Hs.mem (by repeat (first|exact Hs.here|apply Hs.there)))).seg 0
  have sN:=(d4.ok ⟨gN,_,_⟩ (Hs.mem (by repeat (first|exact Hs.here|apply Hs.there)))).seg 0
  simp only[List.drop_zero] at l3 l6 l7 l8 lA lN sA sN
  have hn0:=d4.mod.size
  have B8:w.heap.size≤g8:=(hmn _ (List.mem_cons_of_mem _ (List.mem_cons_of_mem _ (List.mem_cons_self ..)))).resolve_right (by simp)
  have hne:gN≠g8∧gA≠g8∧g8≠g3∧g8≠g7∧g8≠g6∧g7≠g6:=by
    simp only[List.nodup_cons,List.mem_cons,List.not_mem_nil,or_false,not_or] at hnd
    exact⟨hnd.1.2.1,hnd.2.1.1,hnd.2.2.1.2.2,hnd.2.2.1.1,hnd.2.2.1.2.1,hnd.2.2.2.1.1⟩
  have B7:w.heap.size≤g7:=(hmn _ (List.mem_cons_of_mem _ (List.mem_cons_of_mem _ (List.mem_cons_of_mem _ (List.mem_cons_self ..))))).resolve_right (by simp)
  have B6:w.heap.size≤g6:=(hmn _ (List.mem_cons_of_mem _ (List.mem_cons_of_mem _ (List.mem_cons_of_mem _ (List.mem_cons_of_mem _ (List.mem_cons_self ..)))))).resolve_right (by simp)
  obtain⟨hne1,hne2,hne3,hne4,hne5,hne6⟩:=hne
  clear hnd hmn
  have hbA8:bA≠g8:=by omega
  have hbN8:bN≠g8:=by omega
  have mA:KeepB [bA,bN] w w1:=KeepB.of_mod d4.mod (fun k hk=>⟨by simp at hk;omega,by simp⟩)
  have hks:∀ k∈[gA,gN,bA,bN],k<w1.heap.size∧k≠g8:=by
    intro k hk
    simp at hk
    omega
  refine (wpIn_wide (n:=3)).1 ?_
  refine wpIn_rangeFunc_ownH (F:=Fence.wide) rfl (by omega) (gf:=237) (lb:=#[pt gA,pt gN]) (d3.eval (x:=.tmp 29) rfl) trivial (enters_of Tryz.func237 (by kernel_rfl) rfl)
    (pairs_stops 2 (fun x:PwT p=>x.1.1) (fun x=>x.1.2) xs gA gN bA oA bN oN cA cN hn w1 (fun k hk=>(hks k hk).1) sA sN (fun k x hx=>mA.seg (by simp) (hSA k x hx)) (fun k x hx=>mA.seg (by simp) (hSN k x hx)))
    KpB.trans (KpB.put (fun k hk=>(hks k hk).1)) (Below.refl _ _) (fun _=>rfl)
    (fun pre W=>Me w [] [⟨g8,24,numC (prodN p pre)⟩,⟨g7,43,[.int .i64 0]⟩,⟨g6,24,numC 0⟩,⟨g3,26,grpC p q g h⟩] W∧w1.heap.size≤W.heap.size)
    (fun _ _ _=>False)
    (fun pre A B row hs hg hr=>⟨hs.1.own hn0 hg hr,Nat.le_trans hs.2 hg.size⟩)
    (fun _ _ _ _ _ hs _ _=>hs)
    ⟨Lle.me (L':=[⟨g8,24,numC (prodN p [])⟩,⟨g7,43,[.int .i64 0]⟩,⟨g6,24,numC 0⟩,⟨g3,26,grpC p q g h⟩]) (by repeat (first|exact Lle.nil|refine Lle.cons (by repeat (first|exact Pk.here|apply Pk.there)) rfl ?_)) d4,Nat.le_refl _⟩
    (fun x a' W=>a'.defers=[]∧a'.tmps.size=52∧∃ q9 q10,Kn [(3,pt g3),(6,pt g6),(7,pt g7),(8,pt g8),(9,pt q9),(10,pt q10)] a'∧(⟨q9,24,numC x.1.1⟩ : Ent).ok W∧(⟨q10,24,numC x.1.2⟩ : Ent).ok W∧w1.heap.size≤q9∧w1.heap.size≤q10)
    (fun x a' _ A B row ⟨e1,e2,q9,q10,e3,e4,e5,e6⟩ hg hr=>⟨e1,e2,q9,q10,e3,e4.own hg hr,e5.own hg hr,e6⟩)
    ?assign ?body ?done ?stop
  case assign =>
    intro l pre x W K hI hK
    have hQ:¬ LetsOut (Exit.then K (fun _ _ _=>False)):=fun ⟨_,_,h⟩=>h
    have hkn:Kn [(30,numV x.1.1),(31,numV x.1.2),(3,pt g3),(6,pt g6),(7,pt g7),(8,pt g8)] { tmps:=((#[30,31]:Array Tmp).zip #[numV x.1.1,numV x.1.2]).foldl (fun t (p,v)=>t.setIfInBounds p v) a.tmps,defers:=[] }:=by
      have k00:Kn [(3,pt g3),(6,pt g6),(7,pt g7),(8,pt g8)] a:=Kle.kn d3 (by repeat (first|exact Kle.nil|refine Kle.cons rfl rfl ?_))
      have k0:Kn [(3,pt g3),(6,pt g6),(7,pt g7),(8,pt g8)] ({ a with defers:=[] }:Act):=k00
      have k1:=k0.put (d:=30) (by show 30<a.tmps.size;omega) (numV x.1.1)
      have k2:=k1.put (d:=31) (by rw[put_size];show 31<a.tmps.size;omega) (numV x.1.2)
      have k3:Kn [(30,numV x.1.1),(31,numV x.1.2),(3,pt g3),(6,pt g6),(7,pt g7),(8,pt g8)] _:=Kle.kn k2 (by repeat (first|exact Kle.nil|refine Kle.cons rfl rfl ?_))
      intro t v ht;have k4:=k3 t v ht;simpa [Act.put,Array.zip] using k4
    suffices HH:WI (some l) 1 Tryz.prog W [] 52 _ (Exit.then K (fun _ _ _=>False)) [(30,numV x.1.1),(31,numV x.1.2),(3,pt g3),(6,pt g6),(7,pt g7),(8,pt g8)] [] from HH _ W rfl (by simp[d2]) hkn (Me.refl W [])
    repeat (first|refine WO.nil ?_|refine WO.skip ?_|refine WX.seqI ?_|refine WI.seq ?_|refine WI.region ?_ (by exact hQ)|refine WO.autoS (k:=?_)|(refine WO.autoM (k:=?_);intro _)|refine WO.auto (k:=?_)|refine WO.does a_eqNum ?_|refine WO.does a_neqNum ?_|refine WI.ret ?_|refine WI.skip ?_|refine WX.then_ret ?_|refine WX.noPanic ?_|refine WX.blk_normal ?_|refine WX.blk_ret ?_|refine WX.then_exit ?_|refine WX.blk_exit ?_|refine WX.blk_pass rfl ?_|refine WI.exit ?_|refine WI.block ?_|refine WX.scp_normal ?_|refine WX.scp_ret ?_|refine WX.scp_exit ?_|refine WI.condT rfl ?_|refine WI.condF rfl ?_)
    rename_i q9 q10
    intro a2 W2 e1 e2 e3 e4
    have o9:=e4.ok ⟨q9,_,_⟩ (Hs.mem (by repeat (first|exact Hs.here|apply Hs.there)))
    have o10:=e4.ok ⟨q10,_,_⟩ (Hs.mem (by repeat (first|exact Hs.here|apply Hs.there)))
    have m9:=(e4.mine ⟨q9,_,_⟩ (Hs.mem (by repeat (first|exact Hs.here|apply Hs.there)))).resolve_right (by simp)
    have m10:=(e4.mine ⟨q10,_,_⟩ (Hs.mem (by repeat (first|exact Hs.here|apply Hs.there)))).resolve_right (by simp)
    refine hK a2 W2 ⟨e4.mod.size,fun k o _ hk _=>(e4.mod.block k (Array.getElem?_eq_some_iff.1 hk).1 (by simp)).trans hk⟩ ⟨KeepB.of_mod e4.mod (fun k hk=>⟨Nat.lt_of_lt_of_le (hks k hk).1 hI.2,by simp⟩),e4.mod.size⟩ ⟨hI.1.below e4.mod.below,Nat.le_trans hI.2 e4.mod.size⟩
      ⟨e1,e2,q9,q10,Kle.kn e3 (by repeat (first|exact Kle.nil|refine Kle.cons rfl rfl ?_)),o9,o10,Nat.le_trans hI.2 m9,Nat.le_trans hI.2 m10⟩
  case body =>
    rintro l pre x a' W hl _ ⟨hI,hIs⟩ ⟨e1,e2,q9,q10,e3,o9,o10,hq9,hq10⟩ _
    obtain⟨⟨xa,xn⟩,hxa,hxn,hxm⟩:=x
    dsimp only at o9 o10 hxa hxn hxm
    have hE:=c_gExp p q g h xa xn hxa hxn hp
    rw[hxm] at hE
    have hPl:=prodN_lt h1 pre
    have hsn:=prodN_snoc p pre ⟨(xa,xn),hxa,hxn,hxm⟩
    dsimp only at hsn
    have hEl:xa ^ xn%p<p:=Nat.mod_lt _ (by omega)
    have hM:=c_Mul (prodN p pre) (xa ^ xn%p) p (Nat.lt_trans hPl hp) (Nat.lt_trans hEl hp) hp
    have hmay:mayN (prodN p pre) (xa ^ xn%p) p=true:=by simp[mayN,h1,hPl,hEl]
    rw[hmay,← hsn] at hM
    have i8:=hI.ok ⟨g8,_,_⟩ (Hs.mem (by repeat (first|exact Hs.here|apply Hs.there)))
    have i3:=hI.ok ⟨g3,_,_⟩ (Hs.mem (by repeat (first|exact Hs.here|apply Hs.there)))
    have s3:=i3.seg 0
    have s9:=o9.seg 0
    have s10:=o10.seg 0
    have b3:g3 ∉ [g8]:=by simp;omega
    have b9:q9 ∉ [g8]:=by simp;omega
    have b10:q10 ∉ [g8]:=by simp;omega
    simp only[List.drop_zero] at s3 s9 s10
    have hm0:Me W [g8] [⟨g8,24,numC (prodN p pre)⟩] W:=⟨.refl _ _,by simpa using i8,by simp,by simp⟩
    generalize hRg:prodN p (pre++[⟨(xa,xn),hxa,hxn,hxm⟩])=R at *
    have hRR:=Lib.hid hRg
    clear hRg
    generalize hgP:prodN p pre=Pp at *
    generalize xa ^ xn%p=E at *
    have hQ:¬ LetsOut (ownPostG w1.heap.size (KpB [gA,gN,bA,bN]) (fun (pre:List (PwT p)) W=>Me w [] [⟨g8,24,numC (prodN p pre)⟩,⟨g7,43,[.int .i64 0]⟩,⟨g6,24,numC 0⟩,⟨g3,26,grpC p q g h⟩] W∧w1.heap.size≤W.heap.size) (fun _ _ _=>False) (pre++[⟨(xa,xn),hxa,hxn,hxm⟩]) W):=fun ⟨_,_,h⟩=>h
    suffices HH:WI (some l) 1 Tryz.prog W [g8] 52 _ (ownPostG w1.heap.size (KpB [gA,gN,bA,bN]) (fun (pre:List (PwT p)) W=>Me w [] [⟨g8,24,numC (prodN p pre)⟩,⟨g7,43,[.int .i64 0]⟩,⟨g6,24,numC 0⟩,⟨g3,26,grpC p q g h⟩] W∧w1.heap.size≤W.heap.size) (fun _ _ _=>False) (pre++[⟨(xa,xn),hxa,hxn,hxm⟩]) W) [(3,pt g3),(6,pt g6),(7,pt g7),(8,pt g8),(9,pt q9),(10,pt q10)] [⟨g8,24,numC Pp⟩] from HH a' W e1 e2 e3 hm0
    have hE' : okV true E=E:=rfl
    repeat (first|refine WO.does (a_loadF (hs:=s3) (hb:=b3)) ?_|refine WO.does (a_loadF (hs:=s9) (hb:=b9)) ?_|refine WO.does (a_loadF (hs:=s10) (hb:=b10)) ?_|refine WO.nil ?_|refine WO.skip ?_|refine WX.seqI ?_|refine WI.seq ?_|refine WI.region ?_ (by exact hQ)|refine WO.autoS (k:=?_)|(refine WO.autoM (k:=?_);intro _)|refine WO.acall (hc:=hE) (k:=?_)|refine WO.acall (hc:=hM) (k:=?_)|refine WO.auto (k:=?_)|refine WO.does a_eqNum ?_|refine WO.does a_neqNum ?_|refine WI.ret ?_|refine WI.skip ?_|refine WX.then_ret ?_|refine WX.noPanic ?_|refine WX.blk_normal ?_|refine WX.blk_ret ?_|refine WX.then_exit ?_|refine WX.blk_exit ?_|refine WX.blk_pass rfl ?_|refine WI.exit ?_|refine WI.block ?_|refine WX.scp_normal ?_|refine WX.scp_ret ?_|refine WX.scp_exit ?_|refine WI.condT rfl ?_|refine WI.condF rfl ?_)
    rename_i q11
    intro a2 W2 f1 f2 f3 f4
    have f8:=f4.ok ⟨g8,_,_⟩ (Hs.mem (by repeat (first|exact Hs.here|apply Hs.there)))
    refine⟨⟨f4.mod.size,fun k o hk0 hk _=>(f4.mod.block k (Array.getElem?_eq_some_iff.1 hk).1 (by simp;omega)).trans hk⟩,⟨KeepB.of_mod f4.mod (fun k hk=>⟨Nat.lt_of_lt_of_le (hks k hk).1 hIs,by simpa using (hks k hk).2⟩),f4.mod.size⟩,?_,Nat.le_trans hIs f4.mod.size⟩
    rw[hRR.out]
    exact hI.callM Rp.here f4.mod f8 (by decide)
  case done =>
    rintro D ys W hD rfl ⟨hI,hIs⟩ hK
    have i8:=hI.ok ⟨g8,_,_⟩ (Hs.mem (by repeat (first|exact Hs.here|apply Hs.there)))
    have i7:=hI.ok ⟨g7,_,_⟩ (Hs.mem (by repeat (first|exact Hs.here|apply Hs.there)))
    have i6:=hI.ok ⟨g6,_,_⟩ (Hs.mem (by repeat (first|exact Hs.here|apply Hs.there)))
    have s8:=i8.seg 0
    simp only[List.drop_zero] at s8
    have b8:g8 ∉ [g7,g6]:=by simp;exact⟨hne4,hne5⟩
    have hm0:Me W [g7,g6] [⟨g7,43,[.int .i64 0]⟩,⟨g6,24,numC 0⟩] W:=⟨.refl _ _,by simpa using ⟨i7,i6⟩,by simp,by simpa using hne6⟩
    have hlD:D<W.heap.size:=(Array.getElem?_eq_some_iff.1 hK).1
    refine WO.tail (w0:=W) (gs:=[g7,g6]) (n:=52) (K:=[(3,pt g3),(6,pt g6),(7,pt g7),(8,pt g8)]) (L:=[⟨g7,43,[.int .i64 0]⟩,⟨g6,24,numC 0⟩]) rfl d2 (Kle.kn d3 (by repeat (first|exact Kle.nil|refine Kle.cons rfl rfl ?_))) hm0 ?_
    repeat (first|refine WO.does (a_loadF (hs:=s8) (hb:=b8)) ?_|refine Ta ?_|(refine Tm ?_;intro _)|refine Tc ?_|exact Tz)
    intro a2 W2 f1 f2 f3 f4
    have hK2:W2.heap[D]?=some (.deferred (some [])):=(f4.mod.block D hlD (by simp;omega)).trans hK
    refine wp_ret ?_
    have hdf:(dfA ({ target:=.collected D,args:=#[] }::a.defers) a2).defers=[{ target:=.collected D,args:=#[] }]:=by simp[dfA,f1,d1]
    show LeavesInM Fence.wide 3 Tryz.prog Tryz.f108 a2.tmps _ (dfA ({ target:=.collected D,args:=#[] }::a.defers) a2).defers .returning W2
    rw[hdf]
    refine⟨by simp,.inl ⟨_,_,rfl,run_takeDeferred hK2,?_⟩⟩
    have f7:=f4.ok ⟨g7,_,_⟩ (Hs.mem (by repeat (first|exact Hs.here|apply Hs.there)))
    have f6:=f4.ok ⟨g6,_,_⟩ (Hs.mem (by repeat (first|exact Hs.here|apply Hs.there)))
    have hB:Below w.heap.size w W2:=⟨f4.mod.os.trans hI.mod.os,f4.mod.tape.trans hI.mod.tape,f4.mod.output.trans hI.mod.output,Nat.le_trans hI.mod.size f4.mod.size,fun k hk=>(f4.mod.block k (Nat.lt_of_lt_of_le hk hI.mod.size) (by simp;omega)).trans (hI.mod.block k hk (by simp))⟩
    have hB3:=hB.trans (belowK_b (w:=w) (Nat.le_refl _) W2 D _ (.deferred none) (by omega) hK2 rfl rfl)
    have p7:=f7.keep (w':=W2.putObj D (.deferred none)) (World.putObj_heap_other (by show g7≠D;omega))
    have p6:=f6.keep (w':=W2.putObj D (.deferred none)) (World.putObj_heap_other (by show g6≠D;omega))
    generalize W2.putObj D (.deferred none)=W3 at *
    have hm3:Me W3 [g7,g6] _ W3:=⟨.refl _ _,fun e he=>(List.mem_cons.1 he).elim (fun h=>h ▸ p7) (fun he=>(List.mem_singleton.1 he) ▸ p6),by simp,by simpa using hne6⟩
    have h:=mapM2 (P:=Tryz.prog) (rv_cell (P:=Tryz.prog) (p:=6) (t:=24) (K:=[(3,pt g3),(6,pt g6),(7,pt g7),(8,pt g8)]) rfl (Hs.there Hs.here) (vs:=numC (prodN p ys)) rfl rfl a2 W3 (Kle.kn f3 (by repeat (first|exact Kle.nil|refine Kle.cons rfl rfl ?_))) hm3) (rv_cell1 (P:=Tryz.prog) (p:=7) (t:=43) (K:=[(3,pt g3),(6,pt g6),(7,pt g7),(8,pt g8)]) rfl Hs.here (v:=.int .i64 0) rfl a2 W3 (Kle.kn f3 (by repeat (first|exact Kle.nil|refine Kle.cons rfl rfl ?_))) hm3)
    refine⟨.tuple #[numV (prodN p ys),.int .i64 0],?_,_,[],rfl,hB3,News.nil _ _,rfl⟩
    rw[results_eq,show Tryz.f108.results=#[.cell 6 24,.cell 7 43] from rfl,Sem.run_bind,h];rfl
  case stop =>
    rintro D c pre W _ _ h _
    exact h.elim
end Sx
end Go.Proofs.YtiiacjladnljhaaGreatDoor
namespace Go.Proofs.YtiiacjladnljhaaGreatDoor
open Go Go.RowKit Go.BigFrame
namespace Sx
section
variable {P:Program} {w0:World} {gs:List Nat} {n:Nat} {Q:Exit→Act→World→Prop} {K:List (Nat × Value)} {L:List Ent}
theorem WC.loopU {c:Code} (m:Nat) (k:WC P w0 gs n c (Exit.then (Code.rounds P c Q m) Q) K L):WC P w0 gs n (.loop c) Q K L:=fun a w h1 h2 h3 h4=>wp_loop_rounds (m+1) (k a w h1 h2 h3 h4)
end
end Sx
end Go.Proofs.YtiiacjladnljhaaGreatDoor
namespace Go.Proofs.YtiiacjladnljhaaGreatDoor
open Go Go.RowKit Go.BigFrame
namespace Sx
attribute [local irreducible] wd DQ DQS WO WC WX
end Sx
end Go.Proofs.YtiiacjladnljhaaGreatDoor
namespace Go.Proofs.YtiiacjladnljhaaGreatDoor
open Go Go.RowKit Go.BigFrame
namespace Sx
attribute [local irreducible] wd DQ DQS WO WC WX
def sumC (s buf:List Nat) (n:Nat):List Value:=[.int .i64 1]++w3C s++(byC buf++[.int .u64 (n:Int)])
end Sx
end Go.Proofs.YtiiacjladnljhaaGreatDoor
namespace Go.Proofs.YtiiacjladnljhaaGreatDoor
open Go Go.RowKit Go.BigFrame
namespace Sx
attribute [local irreducible] wd DQ DQS WO WC WX
end Sx
end Go.Proofs.YtiiacjladnljhaaGreatDoor
namespace Go.Proofs.YtiiacjladnljhaaGreatDoor
open Go Go.RowKit Go.BigFrame
namespace Sx
end Sx
end Go.Proofs.YtiiacjladnljhaaGreatDoor
namespace Go.Proofs.YtiiacjladnljhaaGreatDoor
open Go Go.RowKit Go.BigFrame
namespace Sx
attribute [local irreducible] wd DQ DQS WO WC WX
theorem cut_all {cs:List Value} {n:Nat} (h:cs.length=n):cut cs 0 n=cs:=by
  unfold cut;rw[List.drop_zero,List.take_of_length_le (by omega)]
end Sx
end Go.Proofs.YtiiacjladnljhaaGreatDoor
namespace Go.Proofs.YtiiacjladnljhaaGreatDoor
open Go Go.RowKit
namespace Sx
attribute [local irreducible] wd DQ DQS WO WC WX
end Sx
end Go.Proofs.YtiiacjladnljhaaGreatDoor
namespace Go.Proofs.YtiiacjladnljhaaGreatDoor
open Go Go.RowKit
namespace Sx
attribute [local irreducible] wd DQ DQS WO WC WX
end Sx
end Go.Proofs.YtiiacjladnljhaaGreatDoor
namespace Go.Proofs.YtiiacjladnljhaaGreatDoor
open Go Go.RowKit
namespace Sx
attribute [local irreducible] wd DQ DQS WO WC WX
end Sx
end Go.Proofs.YtiiacjladnljhaaGreatDoor
namespace Go.Proofs.YtiiacjladnljhaaGreatDoor
open Go Go.RowKit
namespace Sx
attribute [local irreducible] DQ DQS WO WC WX
end Sx
end Go.Proofs.YtiiacjladnljhaaGreatDoor
namespace Go.Proofs.YtiiacjladnljhaaGreatDoor
open Go Go.RowKit
namespace Sx
attribute [local irreducible] wd DQ DQS WO WC WX
end Sx
end Go.Proofs.YtiiacjladnljhaaGreatDoor
namespace Go.Proofs.YtiiacjladnljhaaGreatDoor
open Go Go.RowKit Go.BigFrame
namespace Sx
attribute [local irreducible] wd DQ DQS WO WC WX
end Sx
end Go.Proofs.YtiiacjladnljhaaGreatDoor
namespace Go.Proofs.YtiiacjladnljhaaGreatDoor
open Go Go.RowKit Go.BigFrame
namespace Sx
attribute [local irreducible] DQ DQS WO WC WX
end Sx
end Go.Proofs.YtiiacjladnljhaaGreatDoor
namespace Go.Proofs.YtiiacjladnljhaaGreatDoor
open Go Go.RowKit Go.BigFrame
namespace Sx
attribute [local irreducible] wd DQ DQS WO WC WX
end Sx
end Go.Proofs.YtiiacjladnljhaaGreatDoor
namespace Go.Proofs.YtiiacjladnljhaaGreatDoor
open Go Go.RowKit Go.BigFrame
namespace Sx
attribute [local irreducible] wd DQ DQS WO WC WX
end Sx
end Go.Proofs.YtiiacjladnljhaaGreatDoor
namespace Go.Proofs.YtiiacjladnljhaaGreatDoor
open Go Go.RowKit Go.BigFrame
namespace Sx
attribute [local irreducible] wd DQ DQS WO WC WX
section
open Kp
variable {P:Program} {w0:World} {gs:List Nat} {n:Nat} {fl:List Nat} {Q:Exit→Act→World→Prop} {ops:List Oper} {L0:List Ent}
variable {tail rest:List Oper} {i:Nat} {C:Nums→Prop} {K:Nums→List (Nat × Value)} {N:Nums→List (Nat × Ent)}
variable {d:Nat} {op:Op} {ty:TypeId} {pos:String} {after:Array Edge} {gd:Option (Nat × Bool)}
theorem Fn.ex {f:FuncId} {ar:List Value} {R:World→Prop} {v:Value} (h:Fn P f ar R (Is v)):Fn P f ar R (Ex (fun _=>v) (fun _=>[]) (fun _=>True)) :=
  fun w hw=>(h w hw).mono (fun e w' ⟨v',N,h1,h2,_,h4⟩=>⟨v',[],h1,h2,News.nil _ _,fun _=>0,h4,rfl,trivial⟩)
theorem DQ.acallV {f:FuncId} [Cal P f] {x:Operand} {xs:Array Operand} {ats:Array TypeId} {fs ar cs ar' : List Value} {v:Value} (hc:Fn P f ar' Tr (Is v)) (hx:∀ s,ev (K s) x=some (.func (.func f) fs.toArray cs.toArray):=by (intro s;rfl)) (ha:∀ s,evs (K s) xs.toList=some ar:=by (intro s;rfl)) (hh:fs++ar++cs=ar':=by rfl)
    (k:DQ P w0 gs n fl Q ops L0 tail (i+1) rest (fun s=>C s∧True) (fun s=>(d,v)::K s) N) (hfl:fl.contains i=false:=by rfl) (hw:∀ s,wk ops (K s) gd=some true:=by intro _;rfl) (hd:Nat.blt d n=true:=by rfl) :
    DQ P w0 gs n fl Q ops L0 tail i (⟨some d,.call { callee:=.value x,args:=xs,argTypes:=ats },ty,pos,after,gd⟩::rest) C K N :=
  DQ.callsE (fs:=fun _=>fs) (cs:=fun _=>cs) (R:=fun _=>Tr) (vf:=fun _ _=>v) (Nf:=fun _ _=>[]) (S:=fun _ _=>True) (fun _=>[]) (fun _=>.nil) (fun _=>⟨fun _=>0,trivial⟩) (fun _ _=>hc.ex) hx ha (fun _=>hh) (fun _ _ _ _=>trivial) Dp.const Dp.const Dp.const k hfl hw hd
end
end Sx
end Go.Proofs.YtiiacjladnljhaaGreatDoor
namespace Go.Proofs.YtiiacjladnljhaaGreatDoor
open Go Go.RowKit Go.BigFrame
namespace Sx
abbrev twoC (a b:Nat):List Value:=[.int .u64 ((wd 0 a:Nat):Int),.int .u64 ((wd 1 a:Nat):Int),.int .u64 ((wd 2 a:Nat):Int),.int .u64 ((wd 3 a:Nat):Int),.int .u64 ((wd 0 b:Nat):Int),.int .u64 ((wd 1 b:Nat):Int),.int .u64 ((wd 2 b:Nat):Int),.int .u64 ((wd 3 b:Nat):Int)]
theorem key_key (a b:Nat):∃ l,Tryz.prog.keyLits 3 97 (twoC a b)=some l:=by
  have c1:Tryz.prog.cellsOf 97=8:=by kernel_rfl
  have c2:Tryz.prog.cellsOf 24=4:=by kernel_rfl
  have k1:=key_num a
  have k2:=key_num b
  unfold Program.keyLits
  simp[Tryz.underlying97,c1,c2,numC] at k1 k2 ⊢
  simp[k1,k2]
theorem key_proof (a b:Nat):∃ l,Tryz.prog.keyLits 3 74 (twoC a b)=some l:=by
  have c1:Tryz.prog.cellsOf 74=8:=by kernel_rfl
  have c2:Tryz.prog.cellsOf 24=4:=by kernel_rfl
  have k1:=key_num a
  have k2:=key_num b
  unfold Program.keyLits
  simp[Tryz.underlying74,c1,c2,numC] at k1 k2 ⊢
  simp[k1,k2]
theorem key_group (p q g h:Nat):∃ l,Tryz.prog.keyLits 3 26 (grpC p q g h)=some l:=by
  have c1:Tryz.prog.cellsOf 26=16:=by kernel_rfl
  have c2:Tryz.prog.cellsOf 24=4:=by kernel_rfl
  have k1:=key_num p
  have k2:=key_num q
  have k3:=key_num g
  have k4:=key_num h
  unfold Program.keyLits
  simp[Tryz.underlying26,c1,c2,numC] at k1 k2 k3 k4 ⊢
  simp[k1,k2,k3,k4]
theorem run_same {t d m D:Nat} {cs:List Value} (hk:Tryz.prog.keyTypeAt m t=true) (hm:d+m=10000) (hf:(Value.agg cs.toArray).formed Tryz.prog t=true) (hl:∃ l,Tryz.prog.keyLits D t cs=some l) (w:World) :
    (Op.equalIn 10000 t (.agg cs.toArray) (.agg cs.toArray)).run Tryz.prog w=.ok true w:=by
  obtain⟨l,hl⟩:=hl
  have hl' : Tryz.prog.keyLits D t (Value.agg cs.toArray).cells.toList=some l:=by simpa [Value.cells] using hl
  obtain⟨r,hr,hiff⟩:=run_equalIn_deep (P:=Tryz.prog) d m t hk w D D _ _ l l hf hf hl' hl'
  rw[hm] at hr
  rw[hr,hiff.2 rfl]
theorem same_num (a:Nat) (w:World):(Op.equalIn 10000 24 (.agg (numC a).toArray) (.agg (numC a).toArray)).run Tryz.prog w=.ok true w:=run_same (d:=9998) (m:=2) (D:=2) (by kernel_rfl) rfl (by kernel_rfl) ⟨_,key_num a⟩ w
theorem same_key (a b:Nat) (w:World):(Op.equalIn 10000 97 (.agg (twoC a b).toArray) (.agg (twoC a b).toArray)).run Tryz.prog w=.ok true w:=run_same (d:=9997) (m:=3) (D:=3) (by kernel_rfl) rfl (by kernel_rfl) (key_key a b) w
theorem same_group (p q g h:Nat) (w:World):(Op.equalIn 10000 26 (.agg (grpC p q g h).toArray) (.agg (grpC p q g h).toArray)).run Tryz.prog w=.ok true w:=run_same (d:=9997) (m:=3) (D:=3) (by kernel_rfl) rfl (by kernel_rfl) (key_group p q g h) w
theorem guard_key (op:BinOp) (x y:Operand) (a b:Array Value) (w:World):(eqGuard op 97 x y (.agg a) (.agg b)).run Tryz.prog w=.ok () w:=by cases op<;>kernel_rfl
theorem guard_group (op:BinOp) (x y:Operand) (a b:Array Value) (w:World):(eqGuard op 26 x y (.agg a) (.agg b)).run Tryz.prog w=.ok () w:=by cases op<;>kernel_rfl
section
variable {P:Program} {w0:World} {gs:List Nat} {K:List (Nat × Value)} {L:List Ent}
theorem a_eqSame {t yt ty:TypeId} {x y:Operand} {cs:List Value} (hx:ev K x=some (.agg cs.toArray)) (hy:ev K y=some (.agg cs.toArray)) (hs:∀ w,(Op.equalIn 10000 t (.agg cs.toArray) (.agg cs.toArray)).run P w=.ok true w)
    (hg:∀ w,(eqGuard .eql t x y (.agg cs.toArray) (.agg cs.toArray)).run P w=.ok () w):Does P w0 gs K L (.binOp .eql t x y yt) ty (.bool true):=by
  intro ac w hk _ o ho _
  simp only[execOp,ho,hk.eval hx,hk.eval hy,Sem.run_bind,hg,Result.andThen_ok,run_eql_struct,hs,Sem.run_pure]
theorem a_neqSame {t yt ty:TypeId} {x y:Operand} {cs:List Value} (hx:ev K x=some (.agg cs.toArray)) (hy:ev K y=some (.agg cs.toArray)) (hs:∀ w,(Op.equalIn 10000 t (.agg cs.toArray) (.agg cs.toArray)).run P w=.ok true w)
    (hg:∀ w,(eqGuard .neq t x y (.agg cs.toArray) (.agg cs.toArray)).run P w=.ok () w):Does P w0 gs K L (.binOp .neq t x y yt) ty (.bool false):=by
  intro ac w hk _ o ho _
  simp only[execOp,ho,hk.eval hx,hk.eval hy,Sem.run_bind,hg,Result.andThen_ok,run_neq_struct,hs,Sem.run_pure,Bool.not_true]
end
end Sx
end Go.Proofs.YtiiacjladnljhaaGreatDoor
