/- Part 27 of the proof. -/
import Derived.Test.YteibfbjpkjkejaaGreatDoorS22
import Derived.Test.YteibfbjpkjkejaaGreatDoorS25
import Derived.RangeFuncLeaves
set_option linter.unusedSimpArgs false
set_option linter.unusedVariables false
set_option maxHeartbeats 8000000
namespace Go.Proofs.YteibfbjpkjkejaaGreatDoor
section
open Go Go.RowKit Go.BigFrame
namespace Sx
attribute [local irreducible] DQ DQS WC WO
theorem abJ (pa pb:Option Addr) (la lb ca cb:Nat):Fn Tryz.prog 144 [.slice pa la ca,.slice pb lb cb] Tr (Ex (fun s=>.func (.func 165) #[] #[pt (s 0),pt (s 1)]) (fun s=>[⟨s 1,45,[.slice pb lb cb]⟩,⟨s 0,45,[.slice pa la ca]⟩]) (fun _=>True)):=by
 refine Fn.enter Tryz.func144 rfl rfl rfl ?_;intro w hw
 repeat (first|refine Ta ?_|(refine Tm ?_;intro _)|refine WO.does (zW rfl rfl) ?_|refine Tc ?_|exact Tz)
 rename_i g1 g2;exact WX.ret1 rfl (zt rfl) [⟨g2,45,[.slice pb lb cb]⟩,⟨g1,45,[.slice pa la ca]⟩] (Lle.cons Pk.here rfl (Lle.cons Pk.here rfl Lle.nil)) ⟨fun i=>if i=0 then g1 else g2,rfl,rfl,trivial⟩
abbrev q0 (l:Nat):Nat × Value:=(0,.func (.yield l) #[] #[])
abbrev q1 (g:Nat):Nat × Value:=(1,pt g)
abbrev q2 (g:Nat):Nat × Value:=(2,pt g)
abbrev qn (j a:Nat):Nat × Value:=(j,zj a)
theorem aab (m:Nat) {α:Type} (fa fn:α→Nat) (xs:List α) (gA gN bA oA bN oN cA cN l:Nat) (J Jx:List α→World→Prop) (hn:xs.length≤1099511627776) (hJo:∀ s A B,J s A→Mod [] A B→J s B) (hJxo:∀ s A B,Jx s A→Mod [] A B→Jx s B)
  (hY:∀ pre x W,J pre W→pre.length<xs.length→YieldAt (fw none) (m - 1) Tryz.prog l #[zj (fa x),zj (fn x)] W fun e W'=>(e=.returned (.bool true)∧J (pre++[x]) W'∧zT [gA,gN,bA,bN] W W'∧W.heap.size≤W'.heap.size)∨(e=.returned (.bool false)∧Jx (pre++[x]) W'))
  (W:World) (hA:Seg W gA 0 [.slice (some ⟨bA,oA,none⟩) xs.length cA]) (hN:Seg W gN 0 [.slice (some ⟨bN,oN,none⟩) xs.length cN]) (hSA:∀ k x,xs[k]?=some x→Seg W bA (oA+k*4) (zc (fa x))) (hSN:∀ k x,xs[k]?=some x→Seg W bN (oN+k*4) (zc (fn x))) (hlt:∀ k∈[gA,gN,bA,bN],k<W.heap.size) (h0:J [] W) :
  CallsIn (fw none) m Tryz.prog 165 [.func (.yield l) #[] #[],pt gA,pt gN].toArray W fun e W'=>(∃ v,e=.returned v)∧((∃ ys,ys=xs∧J ys W')∨(∃ pre,True∧Jx pre W')):=by
 refine vo (n:=22) Tryz.func165 rfl rfl rfl ?_;have hQ:¬ LetsOut (bodyPost Tryz.prog Tryz.f165 fun e W'=>(∃ v,e=.returned v)∧((∃ ys,ys=xs∧J ys W')∨(∃ pre,True∧Jx pre W'))):=by
  rintro ⟨a,w,⟨v,h⟩,_⟩;cases h
 refine WI.seq (WI.region ?_ (by exact hQ));refine WO.does (zi (hs:=hA)) ?_;refine WO.auto (k:=?_);refine WO.auto (k:=?_);refine WO.nil (WX.seqI ?_);refine WI.block ?_;refine WI.loopW (σ:=Nat) (fun k=>[(0,.func (.yield l) #[] #[]),(1,pt gA),(2,pt gN),(6,.int .i64 (xs.length:Int)),(7,.int .i64 (k:Int))]) (fun k w=>k≤xs.length∧J (xs.take k) w∧zT [gA,gN,bA,bN] W w∧W.heap.size≤w.heap.size) (fun k=>xs.length - k) 0 (fun w hw=>⟨Nat.zero_le _,?_,?_,hw.mod.size⟩) ?_ ?_
 ·have:=hJo [] W w h0 hw.mod;simpa using this
 ·exact zT.of_mod hw.mod (fun k hk=>⟨hlt k hk,by simp⟩)
 ·repeat (first|exact Kle.nil|refine Kle.cons rfl rfl ?_)
 ·rintro k w1 ⟨hk,hJ,hKp,hsz⟩;have hlw:∀ j∈[gA,gN,bA,bN],j<w1.heap.size:=fun j hj=>Nat.lt_of_lt_of_le (hlt j hj) hsz;have hA':=hKp.seg (b:=gA) (by simp) hA;have hN':=hKp.seg (b:=gN) (by simp) hN;refine WI.seq (WI.region ?_ (by exact hQ));refine WO.auto (k:=?_);refine WO.nil (WX.seqI ?_);refine WI.seq ?_
  by_cases hkl:k<xs.length
  ·refine WI.condT (show some (Value.bool (decide ((k:Int)<(xs.length:Int))))=some (Value.bool true) by rw[decide_eq_true (by omega)]) ?_;refine WI.skip (WX.seqI ?_);obtain⟨x,hx⟩ : ∃ x,xs[k]?=some x:=⟨_,List.getElem?_eq_getElem hkl⟩;have hSA':=hKp.seg (b:=bA) (by simp) (hSA k x hx);have hSN':=hKp.seg (b:=bN) (by simp) (hSN k x hx);have hx' : xs.take k++[x]=xs.take (k+1):=by rw[List.take_add_one,hx];rfl
   refine WI.seq ?_;refine WI.block ?_;refine WI.seq (WI.region ?_ (by exact hQ));refine WO.auto (k:=?_);refine WO.auto (k:=?_);refine WO.nil (WX.seqI ?_);refine WI.seq ?_;refine WI.headQ 9 (by exact hQ) ?_;refine DQ.does (fun s _=>yV rfl) Dp.const ?_;refine DQ.does (fun s _=>zm hA' (i:=0) rfl List.not_mem_nil rfl) Dp.const ?_;refine DQ.does (fun s _=>yV rfl) Dp.const ?_;refine DQ.does (fun s _=>zb (o':=oA+k*4) rfl rfl hkl rfl) Dp.const ?_;refine DQ.does (fun s _=>zo hSA' (i:=0) rfl List.not_mem_nil (vs:=zc (fa x)) rfl rfl) Dp.const ?_;refine DQ.does (fun s _=>zm hN' (i:=0) rfl List.not_mem_nil rfl) Dp.const ?_;refine DQ.does (fun s _=>yV rfl) Dp.const ?_;refine DQ.does (fun s _=>zb (o':=oN+k*4) rfl rfl hkl rfl) Dp.const ?_;refine DQ.does (fun s _=>zo hSN' (i:=0) rfl List.not_mem_nil (vs:=zc (fn x)) rfl rfl) Dp.const ?_;refine DQ.anil (hL:=fun s=>rfl) ?_;intro sx _;refine WO.nil (WX.headV ?_ (by exact hQ));refine VA.yield (i:=9) (S':=[true,true,true,true,true,true,true,true,true,true,false]) (vs:=[zj (fa x),zj (fn x)]) rfl rfl (fun w2 h2=>hY (xs.take k) x w2 (hJo _ _ _ hJ h2.mod) (by rw[List.length_take];omega)) (fun w2 e w3 h2 hR=>?_);have hKw:zT [gA,gN,bA,bN] W w2:=hKp.trans (zT.of_mod h2.mod (fun j hj=>⟨hlw j hj,by simp⟩));have hs2:=Nat.le_trans hsz h2.mod.size
   rcases hR with ⟨rfl,hR,hK3,hs3⟩|⟨rfl,hR⟩
   ·refine⟨true,rfl,?_⟩;rw[hx'] at hR;refine VA.step (S:=[true,true,true,true,true,true,true,true,true,true,false]) (f:=0) [10] ?_;refine tG.cons (fun hQ1 hd1=>?_) tG.nil;refine WO.auto (k:=?_);refine WO.nil (WX.va (VA.done (S:=List.replicate 11 true) ?_) hQ1 hd1);refine WX.seqI (WI.condF rfl ?_);refine WI.skip (WX.blk_normal (WX.seqI ?_));refine WI.region ?_ (by exact hQ);have e1:IntKind.i64.wrap ((k:Int)+1)=((k+1:Nat):Int):=zr (by omega) (by omega) (by omega);refine WO.does (zl rfl rfl e1) ?_;refine WO.auto (k:=?_);refine WO.nil ?_;refine WX.metW (k+1) (by omega) (by repeat (first|exact Kle.nil|refine Kle.cons rfl rfl ?_)) (fun w4 h4=>⟨by omega,hJo _ _ _ hR h4.mod,?_,Nat.le_trans hs2 (Nat.le_trans hs3 h4.mod.size)⟩);exact (hKw.trans hK3).trans (zT.of_mod h4.mod (fun j hj=>⟨Nat.lt_of_lt_of_le (hlt j hj) (Nat.le_trans hs2 hs3),by simp⟩))
   ·refine⟨false,rfl,?_⟩;rw[hx'] at hR;refine VA.step (S:=[true,true,true,true,true,true,true,true,true,true,false]) (f:=0) [10] ?_;refine tG.cons (fun hQ1 hd1=>?_) tG.nil;refine WO.auto (k:=?_);refine WO.nil (WX.va (VA.done (S:=List.replicate 11 true) ?_) hQ1 hd1);refine WX.seqI (WI.condT rfl ?_);refine WI.ret ?_;refine WX.blk_ret (WX.then_ret (WX.then_ret (WX.blk_ret ?_)));intro a w4 g1 g2 g3 g4;exact bodyPost_ret (results_none rfl _ _ _) g1 ⟨⟨_,rfl⟩,.inr ⟨_,trivial,hJxo _ _ _ hR g4.mod⟩⟩
  ·refine WI.condF (show some (Value.bool (decide ((k:Int)<(xs.length:Int))))=some (Value.bool false) by rw[decide_eq_false (by omega)]) ?_;refine WI.exit (WX.then_exit (WX.then_exit (WX.blk_exit ?_)));intro a w4 g1 g2 g3 g4;obtain rfl:k=xs.length:=by omega
   refine bodyPost_end (results_none rfl _ _ _) g1 ⟨⟨_,rfl⟩,.inl ⟨xs,rfl,?_⟩⟩;have:=hJo _ _ _ hJ g4.mod;rwa [List.take_length] at this
end Sx
end
section
open Go Go.RowKit Go.BigFrame
namespace Sx
def KpB (ks:List Nat) (A B:World):Prop:=zT ks A B∧A.heap.size≤B.heap.size
theorem KpB.trans {ks:List Nat} {A B C:World} (h:KpB ks A B) (k:KpB ks B C):KpB ks A C:=⟨h.1.trans k.1,Nat.le_trans h.2 k.2⟩
theorem KpB.put {ks:List Nat} {n:Nat} (hk:∀ k∈ks,k<n) (W:World) (l:Nat) (o o' : Obj) (hl:n≤l) (h1:W.heap[l]?=some o) (h2:o.isCells=false) (h3:o.isWalk=false):KpB ks W (W.putObj l o'):=⟨zT.put hk W l o o' hl h1 h2 h3,by simp⟩
theorem mZ (m:Nat) {α:Type} (fa fn:α→Nat) (xs:List α) (gA gN bA oA bN oN cA cN:Nat) (hn:xs.length≤1099511627776) (w:World) (hlt:∀ k∈[gA,gN,bA,bN],k<w.heap.size)
  (hA:Seg w gA 0 [.slice (some ⟨bA,oA,none⟩) xs.length cA]) (hN:Seg w gN 0 [.slice (some ⟨bN,oN,none⟩) xs.length cN]) (hSA:∀ k x,xs[k]?=some x→Seg w bA (oA+k*4) (zc (fa x))) (hSN:∀ k x,xs[k]?=some x→Seg w bN (oN+k*4) (zc (fn x))) :
  SeqStopsK Fence.wide m Tryz.prog 165 #[pt gA,pt gN] (fun x:α=>#[zj (fa x),zj (fn x)]) (KpB [gA,gN,bA,bN]) (fun ys=>ys=xs) (fun _=>True) xs.length w:=fun l J Jx W hW hJ hJx hY h0=>by
 have hk:zT [gA,gN,bA,bN] w W:=fun k hk=>hW.block k (hlt k hk)
 refine aab m fa fn xs gA gN bA oA bN oN cA cN l J Jx hn (fun s A B h hm=>hJ s A B none h ⟨hm.os,hm.tape,hm.output,hm.size,fun k hk _=>hm.block k hk (by simp)⟩ (by simp)) (fun s A B h hm=>hJx s A B none h ⟨hm.os,hm.tape,hm.output,hm.size,fun k hk _=>hm.block k hk (by simp)⟩ (by simp))
  hY W (hk.seg (by simp) hA) (hk.seg (by simp) hN) (fun k x h=>hk.seg (by simp) (hSA k x h)) (fun k x h=>hk.seg (by simp) (hSN k x h)) (fun k hk=>Nat.lt_of_lt_of_le (hlt k hk) hW.size) h0
abbrev PwT (p:Nat):Type:={ x:Nat × Nat // x.1<zd∧x.2<zd∧yB p x.1=true }
def ue (p:Nat) (l:List (PwT p)):Nat:=l.foldl (fun r x=>r*(x.1.1 ^ x.1.2%p)%p) 1
theorem pJ (p:Nat) (l:List (PwT p)) (x:PwT p):ue p (l++[x])=ue p l*(x.1.1 ^ x.1.2%p)%p:=by unfold ue;rw[List.foldl_append];rfl
theorem aaf {p:Nat} (h:1<p) (l:List (PwT p)):ue p l<p:=by
 rcases List.eq_nil_or_concat l with rfl|⟨l,x,rfl⟩
 ·exact h
 ·rw[List.concat_eq_append,pJ];exact Nat.mod_lt _ (by omega)
theorem nS (p q g h:Nat) (hp:p<zd) (h1:1<p) (xs:List (PwT p)) (bA oA bN oN cA cN:Nat) (hn:xs.length≤1099511627776) :
  Fn Tryz.prog 108 [yo p q g h,.slice (some ⟨bA,oA,none⟩) xs.length cA,.slice (some ⟨bN,oN,none⟩) xs.length cN]
   (fun w=>bA<w.heap.size∧bN<w.heap.size∧(∀ (k:Nat) (x:PwT p),xs[k]?=some x→Seg w bA (oA+k*4) (zc x.1.1))∧(∀ (k:Nat) (x:PwT p),xs[k]?=some x→Seg w bN (oN+k*4) (zc x.1.2))) (Is (.tuple #[zj (ue p xs),.int .i64 0])):=by
 intro w ⟨hbA,hbN,hSA,hSN⟩;have hC:=kf p 1 hp yP;rw[lq h1] at hC;have hPr:=abJ (some ⟨bA,oA,none⟩) (some ⟨bN,oN,none⟩) xs.length xs.length cA cN;refine uV (n:=52) 3 Tryz.func108 rfl rfl rfl ?_
 repeat (first|refine Ta ?_|(refine Tm ?_;intro _)|refine WO.acall (hc:=v8) (k:=?_)|refine WO.acall (hc:=hC) (k:=?_)|refine WO.acallX (hc:=hPr) (hR:=fun _ _=>trivial) (k:=fun s _=>?_)|refine Tc ?_|exact Tz)
 rename_i g3 g6 g7 g8;refine WC.condF (show some (Value.bool (decide ((xs.length:Int)≠(xs.length:Int))))=some (Value.bool false) by simp) ?_
 repeat (first|refine Ta ?_|(refine Tm ?_;intro _)|refine WO.acallX (hc:=hPr) (hR:=fun _ _=>trivial) (k:=fun s _=>?_)|refine Tc ?_|exact Tz)
 generalize s 0=gA;generalize s 1=gN;refine WC.ndp' (fun hnd=>?_);refine WC.mine (fun hmn=>?_);simp only[List.map_append,List.map_cons,List.map_nil,List.cons_append,List.nil_append] at hnd hmn;intro a w1 d1 d2 d3 d4;have l3:=(d4.ok ⟨g3,_,_⟩ (Hs.mem Hs.a)).lt;have l6:=(d4.ok ⟨g6,_,_⟩ (Hs.mem Hs.a)).lt;have l7:=(d4.ok ⟨g7,_,_⟩ (Hs.mem Hs.a)).lt;have l8:=(d4.ok ⟨g8,_,_⟩ (Hs.mem Hs.a)).lt;have lA:=(d4.ok ⟨gA,_,_⟩ (Hs.mem Hs.a)).lt;have lN:=(d4.ok ⟨gN,_,_⟩ (Hs.mem Hs.a)).lt;have sA:=(d4.ok ⟨gA,_,_⟩ (Hs.mem Hs.a)).seg 0;have sN:=(d4.ok ⟨gN,_,_⟩ (Hs.mem Hs.a)).seg 0;simp only[List.drop_zero] at l3 l6 l7 l8 lA lN sA sN;have hn0:=d4.mod.size;have B8:w.heap.size≤g8:=(hmn _ (List.mem_cons_of_mem _ (List.mem_cons_of_mem _ (List.mem_cons_self ..)))).resolve_right (by simp);have hne:gN≠g8∧gA≠g8∧g8≠g3∧g8≠g7∧g8≠g6∧g7≠g6:=by
  simp only[List.nodup_cons,List.mem_cons,List.not_mem_nil,or_false,not_or] at hnd;exact⟨hnd.1.2.1,hnd.2.1.1,hnd.2.2.1.2.2,hnd.2.2.1.1,hnd.2.2.1.2.1,hnd.2.2.2.1.1⟩
 have B7:w.heap.size≤g7:=(hmn _ (List.mem_cons_of_mem _ (List.mem_cons_of_mem _ (List.mem_cons_of_mem _ (List.mem_cons_self ..))))).resolve_right (by simp);have B6:w.heap.size≤g6:=(hmn _ (List.mem_cons_of_mem _ (List.mem_cons_of_mem _ (List.mem_cons_of_mem _ (List.mem_cons_of_mem _ (List.mem_cons_self ..)))))).resolve_right (by simp);obtain⟨hne1,hne2,hne3,hne4,hne5,hne6⟩:=hne;clear hnd hmn;have hbA8:bA≠g8:=by omega
 have hbN8:bN≠g8:=by omega
 have mA:zT [bA,bN] w w1:=zT.of_mod d4.mod (fun k hk=>⟨by simp at hk;omega,by simp⟩);have hks:∀ k∈[gA,gN,bA,bN],k<w1.heap.size∧k≠g8:=by
  intro k hk;simp at hk;omega
 refine (wpIn_wide (n:=3)).1 ?_
 refine wpIn_rangeFunc_ownH (F:=Fence.wide) rfl (by omega) (gf:=165) (lb:=#[pt gA,pt gN]) (d3.eval (x:=.tmp 29) rfl) trivial (enters_of Tryz.func165 (by kernel_rfl) rfl)
  (mZ 2 (fun x:PwT p=>x.1.1) (fun x=>x.1.2) xs gA gN bA oA bN oN cA cN hn w1 (fun k hk=>(hks k hk).1) sA sN (fun k x hx=>mA.seg (by simp) (hSA k x hx)) (fun k x hx=>mA.seg (by simp) (hSN k x hx)))
  KpB.trans (KpB.put (fun k hk=>(hks k hk).1)) (Below.refl _ _) (fun _=>rfl)
  (fun pre W=>Me w [] [⟨g8,24,zc (ue p pre)⟩,⟨g7,42,[.int .i64 0]⟩,⟨g6,24,zc 0⟩,⟨g3,26,zL p q g h⟩] W∧w1.heap.size≤W.heap.size)
  (fun _ _ _=>False)
  (fun pre A B row hs hg hr=>⟨hs.1.own hn0 hg hr,Nat.le_trans hs.2 hg.size⟩)
  (fun _ _ _ _ _ hs _ _=>hs)
  ⟨Lle.me (L':=[⟨g8,24,zc (ue p [])⟩,⟨g7,42,[.int .i64 0]⟩,⟨g6,24,zc 0⟩,⟨g3,26,zL p q g h⟩]) (by repeat (first|exact Lle.nil|refine Lle.c ?_)) d4,Nat.le_refl _⟩
  (fun x a' W=>a'.defers=[]∧a'.tmps.size=52∧∃ q9 q10,Kn [(3,pt g3),(6,pt g6),(7,pt g7),(8,pt g8),(9,pt q9),(10,pt q10)] a'∧(⟨q9,24,zc x.1.1⟩ : Ent).ok W∧(⟨q10,24,zc x.1.2⟩ : Ent).ok W∧w1.heap.size≤q9∧w1.heap.size≤q10)
  (fun x a' _ A B row ⟨e1,e2,q9,q10,e3,e4,e5,e6⟩ hg hr=>⟨e1,e2,q9,q10,e3,e4.own hg hr,e5.own hg hr,e6⟩)
  ?assign ?body ?done ?stop
 case assign =>
  intro l pre x W K hI hK;have hQ:¬ LetsOut (Exit.then K (fun _ _ _=>False)):=fun ⟨_,_,h⟩=>h;have hkn:Kn [(30,zj x.1.1),(31,zj x.1.2),(3,pt g3),(6,pt g6),(7,pt g7),(8,pt g8)] { tmps:=((#[30,31]:Array Tmp).zip #[zj x.1.1,zj x.1.2]).foldl (fun t (p,v)=>t.setIfInBounds p v) a.tmps,defers:=[] }:=by
   have k00:Kn [(3,pt g3),(6,pt g6),(7,pt g7),(8,pt g8)] a:=Kle.kn d3 (by repeat (first|exact Kle.nil|refine Kle.cons rfl rfl ?_));have k0:Kn [(3,pt g3),(6,pt g6),(7,pt g7),(8,pt g8)] ({ a with defers:=[] }:Act):=k00;have k1:=k0.put (d:=30) (by show 30<a.tmps.size;omega) (zj x.1.1);have k2:=k1.put (d:=31) (by rw[zP];show 31<a.tmps.size;omega) (zj x.1.2);have k3:Kn [(30,zj x.1.1),(31,zj x.1.2),(3,pt g3),(6,pt g6),(7,pt g7),(8,pt g8)] _:=Kle.kn k2 (by repeat (first|exact Kle.nil|refine Kle.cons rfl rfl ?_));intro t v ht;have k4:=k3 t v ht;simpa [Act.put,Array.zip] using k4
  suffices HH:WI (some l) 1 Tryz.prog W [] 52 _ (Exit.then K (fun _ _ _=>False)) [(30,zj x.1.1),(31,zj x.1.2),(3,pt g3),(6,pt g6),(7,pt g7),(8,pt g8)] [] from HH _ W rfl (by simp[d2]) hkn (Me.refl W [])
  repeat (first|refine WO.nil ?_|refine WO.skip ?_|refine WX.seqI ?_|refine WI.seq ?_|refine WI.region ?_ (by exact hQ)|refine WO.autoS (k:=?_)|(refine WO.autoM (k:=?_);intro _)|refine WO.auto (k:=?_)|refine WO.does yv ?_|refine WO.does vx ?_|refine WI.ret ?_|refine WI.skip ?_|refine WX.then_ret ?_|refine WX.noPanic ?_|refine WX.blk_normal ?_|refine WX.blk_ret ?_|refine WX.then_exit ?_|refine WX.blk_exit ?_|refine WX.blk_pass rfl ?_|refine WI.exit ?_|refine WI.block ?_|refine WX.scp_normal ?_|refine WX.scp_ret ?_|refine WX.scp_exit ?_|refine WI.condT rfl ?_|refine WI.condF rfl ?_)
  rename_i q9 q10;intro a2 W2 e1 e2 e3 e4;have o9:=e4.ok ⟨q9,_,_⟩ (Hs.mem Hs.a);have o10:=e4.ok ⟨q10,_,_⟩ (Hs.mem Hs.a);have m9:=(e4.mine ⟨q9,_,_⟩ (Hs.mem Hs.a)).resolve_right (by simp);have m10:=(e4.mine ⟨q10,_,_⟩ (Hs.mem Hs.a)).resolve_right (by simp)
  refine hK a2 W2 ⟨e4.mod.size,fun k o _ hk _=>(e4.mod.block k (Array.getElem?_eq_some_iff.1 hk).1 (by simp)).trans hk⟩ ⟨zT.of_mod e4.mod (fun k hk=>⟨Nat.lt_of_lt_of_le (hks k hk).1 hI.2,by simp⟩),e4.mod.size⟩ ⟨hI.1.below e4.mod.below,Nat.le_trans hI.2 e4.mod.size⟩
   ⟨e1,e2,q9,q10,Kle.kn e3 (by repeat (first|exact Kle.nil|refine Kle.cons rfl rfl ?_)),o9,o10,Nat.le_trans hI.2 m9,Nat.le_trans hI.2 m10⟩
 case body =>
  rintro l pre x a' W hl _ ⟨hI,hIs⟩ ⟨e1,e2,q9,q10,e3,o9,o10,hq9,hq10⟩ _;obtain⟨⟨xa,xn⟩,hxa,hxn,hxm⟩:=x;dsimp only at o9 o10 hxa hxn hxm;have hE:=ud p q g h xa xn hxa hxn hp;rw[hxm] at hE;have hPl:=aaf h1 pre;have hsn:=pJ p pre ⟨(xa,xn),hxa,hxn,hxm⟩;dsimp only at hsn;have hEl:xa ^ xn%p<p:=Nat.mod_lt _ (by omega);have hM:=abO (ue p pre) (xa ^ xn%p) p (Nat.lt_trans hPl hp) (Nat.lt_trans hEl hp) hp;have hmay:zJ (ue p pre) (xa ^ xn%p) p=true:=by simp[zJ,h1,hPl,hEl]
  rw[hmay,← hsn] at hM;have i8:=hI.ok ⟨g8,_,_⟩ (Hs.mem Hs.a);have i3:=hI.ok ⟨g3,_,_⟩ (Hs.mem Hs.a);have s3:=i3.seg 0;have s9:=o9.seg 0;have s10:=o10.seg 0;have b3:g3 ∉ [g8]:=by simp;omega
  have b9:q9 ∉ [g8]:=by simp;omega
  have b10:q10 ∉ [g8]:=by simp;omega
  simp only[List.drop_zero] at s3 s9 s10;have hm0:Me W [g8] [⟨g8,24,zc (ue p pre)⟩] W:=⟨.refl _ _,by simpa using i8,by simp,by simp⟩;generalize hRg:ue p (pre++[⟨(xa,xn),hxa,hxn,hxm⟩])=R at *;have hRR:=Lib.hid hRg;clear hRg;generalize hgP:ue p pre=Pp at *;generalize xa ^ xn%p=E at *;have hQ:¬ LetsOut (ownPostG w1.heap.size (KpB [gA,gN,bA,bN]) (fun (pre:List (PwT p)) W=>Me w [] [⟨g8,24,zc (ue p pre)⟩,⟨g7,42,[.int .i64 0]⟩,⟨g6,24,zc 0⟩,⟨g3,26,zL p q g h⟩] W∧w1.heap.size≤W.heap.size) (fun _ _ _=>False) (pre++[⟨(xa,xn),hxa,hxn,hxm⟩]) W):=fun ⟨_,_,h⟩=>h
  suffices HH:WI (some l) 1 Tryz.prog W [g8] 52 _ (ownPostG w1.heap.size (KpB [gA,gN,bA,bN]) (fun (pre:List (PwT p)) W=>Me w [] [⟨g8,24,zc (ue p pre)⟩,⟨g7,42,[.int .i64 0]⟩,⟨g6,24,zc 0⟩,⟨g3,26,zL p q g h⟩] W∧w1.heap.size≤W.heap.size) (fun _ _ _=>False) (pre++[⟨(xa,xn),hxa,hxn,hxm⟩]) W) [(3,pt g3),(6,pt g6),(7,pt g7),(8,pt g8),(9,pt q9),(10,pt q10)] [⟨g8,24,zc Pp⟩] from HH a' W e1 e2 e3 hm0
  have hE' : okV true E=E:=rfl
  repeat (first|refine WO.does (zn (hs:=s3) (hb:=b3)) ?_|refine WO.does (zn (hs:=s9) (hb:=b9)) ?_|refine WO.does (zn (hs:=s10) (hb:=b10)) ?_|refine WO.nil ?_|refine WO.skip ?_|refine WX.seqI ?_|refine WI.seq ?_|refine WI.region ?_ (by exact hQ)|refine WO.autoS (k:=?_)|(refine WO.autoM (k:=?_);intro _)|refine WO.acall (hc:=hE) (k:=?_)|refine WO.acall (hc:=hM) (k:=?_)|refine WO.auto (k:=?_)|refine WO.does yv ?_|refine WO.does vx ?_|refine WI.ret ?_|refine WI.skip ?_|refine WX.then_ret ?_|refine WX.noPanic ?_|refine WX.blk_normal ?_|refine WX.blk_ret ?_|refine WX.then_exit ?_|refine WX.blk_exit ?_|refine WX.blk_pass rfl ?_|refine WI.exit ?_|refine WI.block ?_|refine WX.scp_normal ?_|refine WX.scp_ret ?_|refine WX.scp_exit ?_|refine WI.condT rfl ?_|refine WI.condF rfl ?_)
  rename_i q11;intro a2 W2 f1 f2 f3 f4;have f8:=f4.ok ⟨g8,_,_⟩ (Hs.mem Hs.a);refine⟨⟨f4.mod.size,fun k o hk0 hk _=>(f4.mod.block k (Array.getElem?_eq_some_iff.1 hk).1 (by simp;omega)).trans hk⟩,⟨zT.of_mod f4.mod (fun k hk=>⟨Nat.lt_of_lt_of_le (hks k hk).1 hIs,by simpa using (hks k hk).2⟩),f4.mod.size⟩,?_,Nat.le_trans hIs f4.mod.size⟩;rw[hRR.out];exact hI.callM Rp.here f4.mod f8 (by decide)
 case done =>
  rintro D ys W hD rfl ⟨hI,hIs⟩ hK;have i8:=hI.ok ⟨g8,_,_⟩ (Hs.mem Hs.a);have i7:=hI.ok ⟨g7,_,_⟩ (Hs.mem Hs.a);have i6:=hI.ok ⟨g6,_,_⟩ (Hs.mem Hs.a);have s8:=i8.seg 0;simp only[List.drop_zero] at s8;have b8:g8 ∉ [g7,g6]:=by simp;exact⟨hne4,hne5⟩
  have hm0:Me W [g7,g6] [⟨g7,42,[.int .i64 0]⟩,⟨g6,24,zc 0⟩] W:=⟨.refl _ _,by simpa using ⟨i7,i6⟩,by simp,by simpa using hne6⟩;have hlD:D<W.heap.size:=(Array.getElem?_eq_some_iff.1 hK).1;refine WO.tail (w0:=W) (gs:=[g7,g6]) (n:=52) (K:=[(3,pt g3),(6,pt g6),(7,pt g7),(8,pt g8)]) (L:=[⟨g7,42,[.int .i64 0]⟩,⟨g6,24,zc 0⟩]) rfl d2 (Kle.kn d3 (by repeat (first|exact Kle.nil|refine Kle.cons rfl rfl ?_))) hm0 ?_
  repeat (first|refine WO.does (zn (hs:=s8) (hb:=b8)) ?_|refine Ta ?_|(refine Tm ?_;intro _)|refine Tc ?_|exact Tz)
  intro a2 W2 f1 f2 f3 f4;have hK2:W2.heap[D]?=some (.deferred (some [])):=(f4.mod.block D hlD (by simp;omega)).trans hK;refine wp_ret ?_;have hdf:(dfA ({ target:=.collected D,args:=#[] }::a.defers) a2).defers=[{ target:=.collected D,args:=#[] }]:=by simp[dfA,f1,d1]
  show LeavesInM Fence.wide 3 Tryz.prog Tryz.f108 a2.tmps _ (dfA ({ target:=.collected D,args:=#[] }::a.defers) a2).defers .returning W2;rw[hdf];refine⟨by simp,.inl ⟨_,_,rfl,run_takeDeferred hK2,?_⟩⟩;have f7:=f4.ok ⟨g7,_,_⟩ (Hs.mem Hs.a);have f6:=f4.ok ⟨g6,_,_⟩ (Hs.mem Hs.a);have hB:Below w.heap.size w W2:=⟨f4.mod.os.trans hI.mod.os,f4.mod.tape.trans hI.mod.tape,f4.mod.output.trans hI.mod.output,Nat.le_trans hI.mod.size f4.mod.size,fun k hk=>(f4.mod.block k (Nat.lt_of_lt_of_le hk hI.mod.size) (by simp;omega)).trans (hI.mod.block k hk (by simp))⟩;have hB3:=hB.trans (belowK_b (w:=w) (Nat.le_refl _) W2 D _ (.deferred none) (by omega) hK2 rfl rfl);have p7:=f7.keep (w':=W2.putObj D (.deferred none)) (World.putObj_heap_other (by show g7≠D;omega));have p6:=f6.keep (w':=W2.putObj D (.deferred none)) (World.putObj_heap_other (by show g6≠D;omega));generalize W2.putObj D (.deferred none)=W3 at *;have hm3:Me W3 [g7,g6] _ W3:=⟨.refl _ _,fun e he=>(List.mem_cons.1 he).elim (fun h=>h ▸ p7) (fun he=>(List.mem_singleton.1 he) ▸ p6),by simp,by simpa using hne6⟩;have h:=ga (P:=Tryz.prog) (yx (P:=Tryz.prog) (p:=6) (t:=24) (K:=[(3,pt g3),(6,pt g6),(7,pt g7),(8,pt g8)]) rfl (Hs.there Hs.here) (vs:=zc (ue p ys)) rfl rfl a2 W3 (Kle.kn f3 (by repeat (first|exact Kle.nil|refine Kle.cons rfl rfl ?_))) hm3) (uZ (P:=Tryz.prog) (p:=7) (t:=42) (K:=[(3,pt g3),(6,pt g6),(7,pt g7),(8,pt g8)]) rfl Hs.here (v:=.int .i64 0) rfl a2 W3 (Kle.kn f3 (by repeat (first|exact Kle.nil|refine Kle.cons rfl rfl ?_))) hm3);refine⟨.tuple #[zj (ue p ys),.int .i64 0],?_,_,[],rfl,hB3,iT.nil _ _,rfl⟩;rw[yD,show Tryz.f108.results=#[.cell 6 24,.cell 7 42] from rfl,Sem.run_bind,h];rfl
 case stop =>
  rintro D c pre W _ _ h _;exact h.elim
end Sx
end
end Go.Proofs.YteibfbjpkjkejaaGreatDoor
