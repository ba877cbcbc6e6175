/- Part 24 of the proof. -/
import Derived.Test.YtiaibpcaloigkaaGreatDoorD22
import Derived.RangeFuncLeaves
set_option linter.unusedSimpArgs false
set_option linter.unusedVariables false
set_option maxHeartbeats 8000000
namespace Go.Proofs.YtiaibpcaloigkaaGreatDoor
section
open Go Go.RowKit Go.BigFrame
namespace Sx
attribute [local irreducible] DQ WC WO
theorem acW (pa pb:Option Addr) (la lb ca cb:Nat):Fn Tryz.prog 201 [.slice pa la ca,.slice pb lb cb] Tr (Ex (fun s=>.func (.func 240) #[] #[pt (s 0),pt (s 1)]) (fun s=>[⟨s 1,46,[.slice pb lb cb]⟩,⟨s 0,46,[.slice pa la ca]⟩]) (fun _=>True)):=by
 refine Fn.enter Tryz.func201 rfl rfl rfl ?_;intro w hw
 repeat (first|refine Ta ?_|refine Tm fun _=>?_|refine WO.does (zH rfl rfl) ?_|refine Tc ?_|exact Tz)
 rename_i g1 g2;exact WX.ret1 rfl (zP rfl) [⟨g2,46,[.slice pb lb cb]⟩,⟨g1,46,[.slice pa la ca]⟩] (Lle.cons Pk.here rfl (Lle.cons Pk.here rfl Lle.nil)) ⟨fun i=>if i=0 then g1 else g2,rfl,rfl,trivial⟩
abbrev q0 (l:Nat):Nat × Value:=(0,.func (.yield l) #[] #[])
abbrev q1 (g:Nat):Nat × Value:=(1,pt g)
abbrev q2 (g:Nat):Nat × Value:=(2,pt g)
abbrev qn (j a:Nat):Nat × Value:=(j,zi a)
theorem aS (m:Nat) {α:Type} (fa fn:α→Nat) (xs:List α) (gA gN bA oA bN oN cA cN l:Nat) (J Jx:List α→World→Prop) (hn:xs.length≤1099511627776) (hJo:∀ s A B,J s A→Mod [] A B→J s B) (hJxo:∀ s A B,Jx s A→Mod [] A B→Jx s B)
  (hY:∀ pre x W,J pre W→pre.length<xs.length→YieldAt (fw none) (m - 1) Tryz.prog l #[zi (fa x),zi (fn x)] W fun e W'=>(e=.returned (.bool true)∧J (pre++[x]) W'∧yv [gA,gN,bA,bN] W W'∧W.heap.size≤W'.heap.size)∨(e=.returned (.bool false)∧Jx (pre++[x]) W'))
  (W:World) (hA:Seg W gA 0 [.slice (some ⟨bA,oA,none⟩) xs.length cA]) (hN:Seg W gN 0 [.slice (some ⟨bN,oN,none⟩) xs.length cN]) (hSA:∀ k x,xs[k]?=some x→Seg W bA (oA+k*4) (zc (fa x))) (hSN:∀ k x,xs[k]?=some x→Seg W bN (oN+k*4) (zc (fn x))) (hlt:∀ k∈[gA,gN,bA,bN],k<W.heap.size) (h0:J [] W) :
  CallsIn (fw none) m Tryz.prog 240 [.func (.yield l) #[] #[],pt gA,pt gN].toArray W fun e W'=>(∃ v,e=.returned v)∧((∃ ys,ys=xs∧J ys W')∨(∃ pre,True∧Jx pre W')):=by
 refine uj (n:=22) Tryz.func240 rfl rfl rfl ?_;have hQ:¬ LetsOut (bodyPost Tryz.prog Tryz.f240 fun e W'=>(∃ v,e=.returned v)∧((∃ ys,ys=xs∧J ys W')∨(∃ pre,True∧Jx pre W'))):=by
  rintro ⟨a,w,⟨v,h⟩,_⟩;cases h
 refine WI.seq (WI.region ?_ (by exact hQ));refine WO.does (zn (hs:=hA)) ?_;refine WO.auto (k:=?_);refine WO.auto (k:=?_);refine WO.nil (WX.seqI ?_);refine WI.block ?_;refine WI.loopW (σ:=Nat) (fun k=>[(0,.func (.yield l) #[] #[]),(1,pt gA),(2,pt gN),(6,.int .i64 (xs.length:Int)),(7,.int .i64 (k:Int))]) (fun k w=>k≤xs.length∧J (xs.take k) w∧yv [gA,gN,bA,bN] W w∧W.heap.size≤w.heap.size) (fun k=>xs.length - k) 0 (fun w hw=>⟨Nat.zero_le _,?_,?_,hw.mod.size⟩) ?_ ?_
 ·have:=hJo [] W w h0 hw.mod;simpa using this
 ·exact yv.of_mod hw.mod (fun k hk=>⟨hlt k hk,by simp⟩)
 ·repeat (first|exact Kle.nil|refine Kle.cons rfl rfl ?_)
 ·rintro k w1 ⟨hk,hJ,hKp,hsz⟩;have hlw:∀ j∈[gA,gN,bA,bN],j<w1.heap.size:=fun j hj=>Nat.lt_of_lt_of_le (hlt j hj) hsz;have hA':=hKp.seg (b:=gA) Sm hA;have hN':=hKp.seg (b:=gN) Sm hN;refine WI.seq (WI.region ?_ (by exact hQ));refine WO.auto (k:=?_);refine WO.nil (WX.seqI ?_);refine WI.seq ?_
  by_cases hkl:k<xs.length
  ·refine WI.condT (show some (Value.bool (decide ((k:Int)<(xs.length:Int))))=some (Value.bool true) by rw[decide_eq_true Om]) ?_;refine WI.skip (WX.seqI ?_);obtain⟨x,hx⟩ : ∃ x,xs[k]?=some x:=⟨_,List.getElem?_eq_getElem hkl⟩;have hSA':=hKp.seg (b:=bA) Sm (hSA k x hx);have hSN':=hKp.seg (b:=bN) Sm (hSN k x hx);have hx' : xs.take k++[x]=xs.take (k+1):=by rw[List.take_add_one,hx];rfl
   refine WI.seq ?_;refine WI.block ?_;refine WI.seq (WI.region ?_ (by exact hQ));refine WO.auto (k:=?_);refine WO.auto (k:=?_);refine WO.nil (WX.seqI ?_);refine WI.seq ?_;refine WI.headQ 9 (by exact hQ) ?_;refine DQ.does (fun s _=>vD rfl) Dp.const ?_;refine DQ.does (fun s _=>vw hA' (i:=0) rfl List.not_mem_nil rfl) Dp.const ?_;refine DQ.does (fun s _=>vD rfl) Dp.const ?_;refine DQ.does (fun s _=>zb (o':=oA+k*4) rfl rfl hkl rfl) Dp.const ?_;refine DQ.does (fun s _=>vV hSA' (i:=0) rfl List.not_mem_nil (vs:=zc (fa x)) rfl rfl) Dp.const ?_;refine DQ.does (fun s _=>vw hN' (i:=0) rfl List.not_mem_nil rfl) Dp.const ?_;refine DQ.does (fun s _=>vD rfl) Dp.const ?_;refine DQ.does (fun s _=>zb (o':=oN+k*4) rfl rfl hkl rfl) Dp.const ?_;refine DQ.does (fun s _=>vV hSN' (i:=0) rfl List.not_mem_nil (vs:=zc (fn x)) rfl rfl) Dp.const ?_;refine DQ.anil (hL:=fun s=>rfl) ?_;intro sx _;refine WO.nil (WX.headV ?_ (by exact hQ));refine VA.yield (i:=9) (S':=[true,true,true,true,true,true,true,true,true,true,false]) (vs:=[zi (fa x),zi (fn x)]) rfl rfl (fun w2 h2=>hY (xs.take k) x w2 (hJo _ _ _ hJ h2.mod) (by rw[List.length_take];omega)) (fun w2 e w3 h2 hR=>?_);have hKw:yv [gA,gN,bA,bN] W w2:=hKp.trans (yv.of_mod h2.mod (fun j hj=>⟨hlw j hj,by simp⟩));have hs2:=Nat.le_trans hsz h2.mod.size
   rcases hR with ⟨rfl,hR,hK3,hs3⟩|⟨rfl,hR⟩
   ·refine⟨true,rfl,?_⟩;rw[hx'] at hR;refine VA.step (S:=[true,true,true,true,true,true,true,true,true,true,false]) (f:=0) [10] ?_;refine tD.cons (fun hQ1 hd1=>?_) tD.nil;refine WO.auto (k:=?_);refine WO.nil (WX.va (VA.done (S:=List.replicate 11 true) ?_) hQ1 hd1);refine WX.seqI (WI.condF rfl ?_);refine WI.skip (WX.blk_normal (WX.seqI ?_));refine WI.region ?_ (by exact hQ);have e1:IntKind.i64.wrap ((k:Int)+1)=((k+1:Nat):Int):=zl Om Om Om;refine WO.does (zj rfl rfl e1) ?_;refine WO.auto (k:=?_);refine WO.nil ?_;refine WX.metW (k+1) Om Kle.a (fun w4 h4=>⟨by omega,hJo _ _ _ hR h4.mod,?_,Nat.le_trans hs2 (Nat.le_trans hs3 h4.mod.size)⟩);exact (hKw.trans hK3).trans (yv.of_mod h4.mod (fun j hj=>⟨Nat.lt_of_lt_of_le (hlt j hj) (Nat.le_trans hs2 hs3),by simp⟩))
   ·refine⟨false,rfl,?_⟩;rw[hx'] at hR;refine VA.step (S:=[true,true,true,true,true,true,true,true,true,true,false]) (f:=0) [10] ?_;refine tD.cons (fun hQ1 hd1=>?_) tD.nil;refine WO.auto (k:=?_);refine WO.nil (WX.va (VA.done (S:=List.replicate 11 true) ?_) hQ1 hd1);refine WX.seqI (WI.condT rfl ?_);refine WI.ret ?_;refine WX.blk_ret (WX.then_ret (WX.then_ret (WX.blk_ret ?_)));intro a w4 g1 g2 g3 g4;exact bodyPost_ret (results_none rfl _ _ _) g1 ⟨⟨_,rfl⟩,.inr ⟨_,trivial,hJxo _ _ _ hR g4.mod⟩⟩
  ·refine WI.condF (show some (Value.bool (decide ((k:Int)<(xs.length:Int))))=some (Value.bool false) by rw[decide_eq_false Om]) ?_;refine WI.exit (WX.then_exit (WX.then_exit (WX.blk_exit ?_)));intro a w4 g1 g2 g3 g4;obtain rfl:k=xs.length:=by omega
   refine bodyPost_end (results_none rfl _ _ _) g1 ⟨⟨_,rfl⟩,.inl ⟨xs,rfl,?_⟩⟩;have:=hJo _ _ _ hJ g4.mod;rwa [List.take_length] at this
end Sx
end
section
open Go Go.RowKit Go.BigFrame
namespace Sx
def KpB (ks:LN) (A B:World):Prop:=yv ks A B∧A.heap.size≤B.heap.size
theorem KpB.trans {ks:LN} {A B C:World} (h:KpB ks A B) (k:KpB ks B C):KpB ks A C:=⟨h.1.trans k.1,Nat.le_trans h.2 k.2⟩
theorem KpB.put {ks:LN} {n:Nat} (hk:∀ k∈ks,k<n) (W:World) (l:Nat) (o o' : Obj) (hl:n≤l) (h1:W.heap[l]?=some o) (h2:o.isCells=false) (h3:o.isWalk=false):KpB ks W (W.putObj l o'):=⟨yv.put hk W l o o' hl h1 h2 h3,by simp⟩
theorem m4 (m:Nat) {α:Type} (fa fn:α→Nat) (xs:List α) (gA gN bA oA bN oN cA cN:Nat) (hn:xs.length≤1099511627776) (w:World) (hlt:∀ k∈[gA,gN,bA,bN],k<w.heap.size)
  (hA:Seg w gA 0 [.slice (some ⟨bA,oA,none⟩) xs.length cA]) (hN:Seg w gN 0 [.slice (some ⟨bN,oN,none⟩) xs.length cN]) (hSA:∀ k x,xs[k]?=some x→Seg w bA (oA+k*4) (zc (fa x))) (hSN:∀ k x,xs[k]?=some x→Seg w bN (oN+k*4) (zc (fn x))) :
  SeqStopsK Fence.wide m Tryz.prog 240 #[pt gA,pt gN] (fun x:α=>#[zi (fa x),zi (fn x)]) (KpB [gA,gN,bA,bN]) (fun ys=>ys=xs) (fun _=>True) xs.length w:=fun l J Jx W hW hJ hJx hY h0=>by
 have hk:yv [gA,gN,bA,bN] w W:=fun k hk=>hW.block k (hlt k hk)
 refine aS m fa fn xs gA gN bA oA bN oN cA cN l J Jx hn (fun s A B h hm=>hJ s A B none h ⟨hm.os,hm.tape,hm.output,hm.size,fun k hk _=>hm.block k hk Sm⟩ Sm) (fun s A B h hm=>hJx s A B none h ⟨hm.os,hm.tape,hm.output,hm.size,fun k hk _=>hm.block k hk Sm⟩ Sm)
  hY W (hk.seg Sm hA) (hk.seg Sm hN) (fun k x h=>hk.seg Sm (hSA k x h)) (fun k x h=>hk.seg Sm (hSN k x h)) (fun k hk=>Nat.lt_of_lt_of_le (hlt k hk) hW.size) h0
abbrev PwT (p:Nat):Type:={ x:Nat × Nat // x.1<ze∧x.2<ze∧yx p x.1=true }
def ud (p:Nat) (l:List (PwT p)):Nat:=l.foldl (fun r x=>r*(x.1.1 ^ x.1.2%p)%p) 1
theorem qM (p:Nat) (l:List (PwT p)) (x:PwT p):ud p (l++[x])=ud p l*(x.1.1 ^ x.1.2%p)%p:=by unfold ud;rw[List.foldl_append];rfl
theorem bJ {p:Nat} (h:1<p) (l:List (PwT p)):ud p l<p:=by
 rcases List.eq_nil_or_concat l with rfl|⟨l,x,rfl⟩
 ·exact h
 ·rw[List.concat_eq_append,qM];exact Nat.mod_lt _ Om
theorem oX (p q g h:Nat) (hp:p<ze) (h1:1<p) (xs:List (PwT p)) (bA oA bN oN cA cN:Nat) (hn:xs.length≤1099511627776) :
  Fn Tryz.prog 154 [vI p q g h,.slice (some ⟨bA,oA,none⟩) xs.length cA,.slice (some ⟨bN,oN,none⟩) xs.length cN]
   (fun w=>bA<w.heap.size∧bN<w.heap.size∧(∀ (k:Nat) (x:PwT p),xs[k]?=some x→Seg w bA (oA+k*4) (zc x.1.1))∧(∀ (k:Nat) (x:PwT p),xs[k]?=some x→Seg w bN (oN+k*4) (zc x.1.2))) (Is (.tuple #[zi (ud p xs),.int .i64 0])):=by
 intro w ⟨hbA,hbN,hSA,hSN⟩;have hC:=lT p 1 hp yT;rw[m8 h1] at hC;have hPr:=acW (some ⟨bA,oA,none⟩) (some ⟨bN,oN,none⟩) xs.length xs.length cA cN;refine tZ (n:=52) 3 Tryz.func154 rfl rfl rfl ?_
 repeat (first|refine Ta ?_|refine Tm fun _=>?_|refine WO.acall (hc:=vS) (k:=?_)|refine WO.acall (hc:=hC) (k:=?_)|refine WO.acallX (hc:=hPr) (hR:=fun _ _=>trivial) (k:=fun s _=>?_)|refine Tc ?_|exact Tz)
 rename_i g3 g6 g7 g8;refine WC.condF (show some (Value.bool (decide ((xs.length:Int)≠(xs.length:Int))))=some (Value.bool false) by simp) ?_
 repeat (first|refine Ta ?_|refine Tm fun _=>?_|refine WO.acallX (hc:=hPr) (hR:=fun _ _=>trivial) (k:=fun s _=>?_)|refine Tc ?_|exact Tz)
 generalize s 0=gA;generalize s 1=gN;refine WC.ndp' (fun hnd=>?_);refine WC.mine (fun hmn=>?_);simp only[List.map_append,List.map_cons,List.map_nil,List.cons_append,List.nil_append] at hnd hmn;intro a w1 d1 d2 d3 d4;have l3:=(d4.ok ⟨g3,_,_⟩ (Hs.mem Hs.a)).lt;have l6:=(d4.ok ⟨g6,_,_⟩ (Hs.mem Hs.a)).lt;have l7:=(d4.ok ⟨g7,_,_⟩ (Hs.mem Hs.a)).lt;have l8:=(d4.ok ⟨g8,_,_⟩ (Hs.mem Hs.a)).lt;have lA:=(d4.ok ⟨gA,_,_⟩ (Hs.mem Hs.a)).lt;have lN:=(d4.ok ⟨gN,_,_⟩ (Hs.mem Hs.a)).lt;have sA:=(d4.ok ⟨gA,_,_⟩ (Hs.mem Hs.a)).seg 0;have sN:=(d4.ok ⟨gN,_,_⟩ (Hs.mem Hs.a)).seg 0;simp only[List.drop_zero] at l3 l6 l7 l8 lA lN sA sN;have hn0:=d4.mod.size;have B8:w.heap.size≤g8:=(hmn _ (List.mem_cons_of_mem _ (List.mem_cons_of_mem _ (List.mem_cons_self ..)))).resolve_right Sm;have hne:gN≠g8∧gA≠g8∧g8≠g3∧g8≠g7∧g8≠g6∧g7≠g6:=by
  simp only[List.nodup_cons,List.mem_cons,List.not_mem_nil,or_false,not_or] at hnd;exact⟨hnd.1.2.1,hnd.2.1.1,hnd.2.2.1.2.2,hnd.2.2.1.1,hnd.2.2.1.2.1,hnd.2.2.2.1.1⟩
 have B7:w.heap.size≤g7:=(hmn _ (List.mem_cons_of_mem _ (List.mem_cons_of_mem _ (List.mem_cons_of_mem _ (List.mem_cons_self ..))))).resolve_right Sm;have B6:w.heap.size≤g6:=(hmn _ (List.mem_cons_of_mem _ (List.mem_cons_of_mem _ (List.mem_cons_of_mem _ (List.mem_cons_of_mem _ (List.mem_cons_self ..)))))).resolve_right Sm;obtain⟨hne1,hne2,hne3,hne4,hne5,hne6⟩:=hne;clear hnd hmn;have hbA8:bA≠g8:=by omega
 have hbN8:bN≠g8:=by omega
 have mA:yv [bA,bN] w w1:=yv.of_mod d4.mod (fun k hk=>⟨by simp at hk;omega,by simp⟩);have hks:∀ k∈[gA,gN,bA,bN],k<w1.heap.size∧k≠g8:=by
  intro k hk;simp at hk;omega
 refine (wpIn_wide (n:=3)).1 ?_
 refine wpIn_rangeFunc_ownH (F:=Fence.wide) rfl Om (gf:=240) (lb:=#[pt gA,pt gN]) (d3.eval (x:=.tmp 29) rfl) trivial (enters_of Tryz.func240 Kr rfl)
  (m4 2 (fun x:PwT p=>x.1.1) (fun x=>x.1.2) xs gA gN bA oA bN oN cA cN hn w1 (fun k hk=>(hks k hk).1) sA sN (fun k x hx=>mA.seg Sm (hSA k x hx)) (fun k x hx=>mA.seg Sm (hSN k x hx)))
  KpB.trans (KpB.put (fun k hk=>(hks k hk).1)) (Below.refl _ _) (fun _=>rfl)
  (fun pre W=>Me w [] [⟨g8,24,zc (ud p pre)⟩,⟨g7,54,[.int .i64 0]⟩,⟨g6,24,zc 0⟩,⟨g3,26,yC p q g h⟩] W∧w1.heap.size≤W.heap.size)
  (fun _ _ _=>False)
  (fun pre A B row hs hg hr=>⟨hs.1.own hn0 hg hr,Nat.le_trans hs.2 hg.size⟩)
  (fun _ _ _ _ _ hs _ _=>hs)
  ⟨Lle.me (L':=[⟨g8,24,zc (ud p [])⟩,⟨g7,54,[.int .i64 0]⟩,⟨g6,24,zc 0⟩,⟨g3,26,yC p q g h⟩]) (by repeat (first|exact Lle.nil|refine Lle.c ?_)) d4,Nat.le_refl _⟩
  (fun x a' W=>a'.defers=[]∧a'.tmps.size=52∧∃ q9 q10,Kn [(3,pt g3),(6,pt g6),(7,pt g7),(8,pt g8),(9,pt q9),(10,pt q10)] a'∧(⟨q9,24,zc x.1.1⟩ : Ent).ok W∧(⟨q10,24,zc x.1.2⟩ : Ent).ok W∧w1.heap.size≤q9∧w1.heap.size≤q10)
  (fun x a' _ A B row ⟨e1,e2,q9,q10,e3,e4,e5,e6⟩ hg hr=>⟨e1,e2,q9,q10,e3,e4.own hg hr,e5.own hg hr,e6⟩)
  ?assign ?body ?done ?stop
 case assign =>
  intro l pre x W K hI hK;have hQ:¬ LetsOut (Exit.then K (fun _ _ _=>False)):=fun ⟨_,_,h⟩=>h;have hkn:Kn [(30,zi x.1.1),(31,zi x.1.2),(3,pt g3),(6,pt g6),(7,pt g7),(8,pt g8)] { tmps:=((#[30,31]:Array Tmp).zip #[zi x.1.1,zi x.1.2]).foldl (fun t (p,v)=>t.setIfInBounds p v) a.tmps,defers:=[] }:=by
   have k00:Kn [(3,pt g3),(6,pt g6),(7,pt g7),(8,pt g8)] a:=Kle.kn d3 Kle.a;have k0:Kn [(3,pt g3),(6,pt g6),(7,pt g7),(8,pt g8)] ({ a with defers:=[] }:Act):=k00;have k1:=k0.put (d:=30) (by show 30<a.tmps.size;omega) (zi x.1.1);have k2:=k1.put (d:=31) (by rw[yk];show 31<a.tmps.size;omega) (zi x.1.2);have k3:Kn [(30,zi x.1.1),(31,zi x.1.2),(3,pt g3),(6,pt g6),(7,pt g7),(8,pt g8)] _:=Kle.kn k2 Kle.a;intro t v ht;have k4:=k3 t v ht;simpa [Act.put,Array.zip] using k4
  suffices HH:WI (some l) 1 Tryz.prog W [] 52 _ (Exit.then K (fun _ _ _=>False)) [(30,zi x.1.1),(31,zi x.1.2),(3,pt g3),(6,pt g6),(7,pt g7),(8,pt g8)] [] from HH _ W rfl (by simp[d2]) hkn (Me.refl W [])
  repeat (first|refine WO.nil ?_|refine WO.skip ?_|refine WX.seqI ?_|refine WI.seq ?_|refine WI.region ?_ (by exact hQ)|refine WO.autoS (k:=?_)|(refine WO.autoM (k:=?_);intro _)|refine WO.auto (k:=?_)|refine WO.does yF ?_|refine WO.does u4 ?_|refine WI.ret ?_|refine WI.skip ?_|refine WX.then_ret ?_|refine WX.noPanic ?_|refine WX.blk_normal ?_|refine WX.blk_ret ?_|refine WX.then_exit ?_|refine WX.blk_exit ?_|refine WX.blk_pass rfl ?_|refine WI.exit ?_|refine WI.block ?_|refine WX.scp_normal ?_|refine WX.scp_ret ?_|refine WX.scp_exit ?_|refine WI.condT rfl ?_|refine WI.condF rfl ?_)
  rename_i q9 q10;intro a2 W2 e1 e2 e3 e4;have o9:=e4.ok ⟨q9,_,_⟩ (Hs.mem Hs.a);have o10:=e4.ok ⟨q10,_,_⟩ (Hs.mem Hs.a);have m9:=(e4.mine ⟨q9,_,_⟩ (Hs.mem Hs.a)).resolve_right Sm;have m10:=(e4.mine ⟨q10,_,_⟩ (Hs.mem Hs.a)).resolve_right Sm
  refine hK a2 W2 ⟨e4.mod.size,fun k o _ hk _=>(e4.mod.block k (Array.getElem?_eq_some_iff.1 hk).1 Sm).trans hk⟩ ⟨yv.of_mod e4.mod (fun k hk=>⟨Nat.lt_of_lt_of_le (hks k hk).1 hI.2,by simp⟩),e4.mod.size⟩ ⟨hI.1.below e4.mod.below,Nat.le_trans hI.2 e4.mod.size⟩
   ⟨e1,e2,q9,q10,Kle.kn e3 Kle.a,o9,o10,Nat.le_trans hI.2 m9,Nat.le_trans hI.2 m10⟩
 case body =>
  rintro l pre x a' W hl _ ⟨hI,hIs⟩ ⟨e1,e2,q9,q10,e3,o9,o10,hq9,hq10⟩ _;obtain⟨⟨xa,xn⟩,hxa,hxn,hxm⟩:=x;dsimp only at o9 o10 hxa hxn hxm;have hE:=vF p q g h xa xn hxa hxn hp;rw[hxm] at hE;have hPl:=bJ h1 pre;have hsn:=qM p pre ⟨(xa,xn),hxa,hxn,hxm⟩;dsimp only at hsn;have hEl:xa ^ xn%p<p:=Nat.mod_lt _ Om;have hM:=acO (ud p pre) (xa ^ xn%p) p (Nat.lt_trans hPl hp) (Nat.lt_trans hEl hp) hp;have hmay:zK (ud p pre) (xa ^ xn%p) p=true:=by simp[zK,h1,hPl,hEl]
  rw[hmay,← hsn] at hM;have i8:=hI.ok ⟨g8,_,_⟩ (Hs.mem Hs.a);have i3:=hI.ok ⟨g3,_,_⟩ (Hs.mem Hs.a);have s3:=i3.seg 0;have s9:=o9.seg 0;have s10:=o10.seg 0;have b3:g3 ∉ [g8]:=by simp;omega
  have b9:q9 ∉ [g8]:=by simp;omega
  have b10:q10 ∉ [g8]:=by simp;omega
  simp only[List.drop_zero] at s3 s9 s10;have hm0:Me W [g8] [⟨g8,24,zc (ud p pre)⟩] W:=⟨.refl _ _,by simpa using i8,by simp,by simp⟩;generalize hRg:ud p (pre++[⟨(xa,xn),hxa,hxn,hxm⟩])=R at *;have hRR:=Lib.hid hRg;clear hRg;generalize hgP:ud p pre=Pp at *;generalize xa ^ xn%p=E at *;have hQ:¬ LetsOut (ownPostG w1.heap.size (KpB [gA,gN,bA,bN]) (fun (pre:List (PwT p)) W=>Me w [] [⟨g8,24,zc (ud p pre)⟩,⟨g7,54,[.int .i64 0]⟩,⟨g6,24,zc 0⟩,⟨g3,26,yC p q g h⟩] W∧w1.heap.size≤W.heap.size) (fun _ _ _=>False) (pre++[⟨(xa,xn),hxa,hxn,hxm⟩]) W):=fun ⟨_,_,h⟩=>h
  suffices HH:WI (some l) 1 Tryz.prog W [g8] 52 _ (ownPostG w1.heap.size (KpB [gA,gN,bA,bN]) (fun (pre:List (PwT p)) W=>Me w [] [⟨g8,24,zc (ud p pre)⟩,⟨g7,54,[.int .i64 0]⟩,⟨g6,24,zc 0⟩,⟨g3,26,yC p q g h⟩] W∧w1.heap.size≤W.heap.size) (fun _ _ _=>False) (pre++[⟨(xa,xn),hxa,hxn,hxm⟩]) W) [(3,pt g3),(6,pt g6),(7,pt g7),(8,pt g8),(9,pt q9),(10,pt q10)] [⟨g8,24,zc Pp⟩] from HH a' W e1 e2 e3 hm0
  have hE' : okV true E=E:=rfl
  repeat (first|refine WO.does (zm (hs:=s3) (hb:=b3)) ?_|refine WO.does (zm (hs:=s9) (hb:=b9)) ?_|refine WO.does (zm (hs:=s10) (hb:=b10)) ?_|refine WO.nil ?_|refine WO.skip ?_|refine WX.seqI ?_|refine WI.seq ?_|refine WI.region ?_ (by exact hQ)|refine WO.autoS (k:=?_)|(refine WO.autoM (k:=?_);intro _)|refine WO.acall (hc:=hE) (k:=?_)|refine WO.acall (hc:=hM) (k:=?_)|refine WO.auto (k:=?_)|refine WO.does yF ?_|refine WO.does u4 ?_|refine WI.ret ?_|refine WI.skip ?_|refine WX.then_ret ?_|refine WX.noPanic ?_|refine WX.blk_normal ?_|refine WX.blk_ret ?_|refine WX.then_exit ?_|refine WX.blk_exit ?_|refine WX.blk_pass rfl ?_|refine WI.exit ?_|refine WI.block ?_|refine WX.scp_normal ?_|refine WX.scp_ret ?_|refine WX.scp_exit ?_|refine WI.condT rfl ?_|refine WI.condF rfl ?_)
  rename_i q11;intro a2 W2 f1 f2 f3 f4;have f8:=f4.ok ⟨g8,_,_⟩ (Hs.mem Hs.a);refine⟨⟨f4.mod.size,fun k o hk0 hk _=>(f4.mod.block k (Array.getElem?_eq_some_iff.1 hk).1 (by simp;omega)).trans hk⟩,⟨yv.of_mod f4.mod (fun k hk=>⟨Nat.lt_of_lt_of_le (hks k hk).1 hIs,by simpa using (hks k hk).2⟩),f4.mod.size⟩,?_,Nat.le_trans hIs f4.mod.size⟩;rw[hRR.out];exact hI.callM Rp.here f4.mod f8 Dt
 case done =>
  rintro D ys W hD rfl ⟨hI,hIs⟩ hK;have i8:=hI.ok ⟨g8,_,_⟩ (Hs.mem Hs.a);have i7:=hI.ok ⟨g7,_,_⟩ (Hs.mem Hs.a);have i6:=hI.ok ⟨g6,_,_⟩ (Hs.mem Hs.a);have s8:=i8.seg 0;simp only[List.drop_zero] at s8;have b8:g8 ∉ [g7,g6]:=by simp;exact⟨hne4,hne5⟩
  have hm0:Me W [g7,g6] [⟨g7,54,[.int .i64 0]⟩,⟨g6,24,zc 0⟩] W:=⟨.refl _ _,by simpa using ⟨i7,i6⟩,by simp,by simpa using hne6⟩;have hlD:D<W.heap.size:=(Array.getElem?_eq_some_iff.1 hK).1;refine WO.tail (w0:=W) (gs:=[g7,g6]) (n:=52) (K:=[(3,pt g3),(6,pt g6),(7,pt g7),(8,pt g8)]) (L:=[⟨g7,54,[.int .i64 0]⟩,⟨g6,24,zc 0⟩]) rfl d2 (Kle.kn d3 Kle.a) hm0 ?_
  repeat (first|refine WO.does (zm (hs:=s8) (hb:=b8)) ?_|refine Ta ?_|refine Tm fun _=>?_|refine Tc ?_|exact Tz)
  intro a2 W2 f1 f2 f3 f4;have hK2:W2.heap[D]?=some (.deferred (some [])):=(f4.mod.block D hlD (by simp;omega)).trans hK;refine wp_ret ?_;have hdf:(dfA ({ target:=.collected D,args:=#[] }::a.defers) a2).defers=[{ target:=.collected D,args:=#[] }]:=by simp[dfA,f1,d1]
  show LeavesInM Fence.wide 3 Tryz.prog Tryz.f154 a2.tmps _ (dfA ({ target:=.collected D,args:=#[] }::a.defers) a2).defers .returning W2;rw[hdf];refine⟨by simp,.inl ⟨_,_,rfl,run_takeDeferred hK2,?_⟩⟩;have f7:=f4.ok ⟨g7,_,_⟩ (Hs.mem Hs.a);have f6:=f4.ok ⟨g6,_,_⟩ (Hs.mem Hs.a);have hB:Below w.heap.size w W2:=⟨f4.mod.os.trans hI.mod.os,f4.mod.tape.trans hI.mod.tape,f4.mod.output.trans hI.mod.output,Nat.le_trans hI.mod.size f4.mod.size,fun k hk=>(f4.mod.block k (Nat.lt_of_lt_of_le hk hI.mod.size) (by simp;omega)).trans (hI.mod.block k hk Sm)⟩;have hB3:=hB.trans (belowK_b (w:=w) (Nat.le_refl _) W2 D _ (.deferred none) Om hK2 rfl rfl);have p7:=f7.keep (w':=W2.putObj D (.deferred none)) (World.putObj_heap_other (by show g7≠D;omega));have p6:=f6.keep (w':=W2.putObj D (.deferred none)) (World.putObj_heap_other (by show g6≠D;omega));generalize W2.putObj D (.deferred none)=W3 at *;have hm3:Me W3 [g7,g6] _ W3:=⟨.refl _ _,fun e he=>(List.mem_cons.1 he).elim (fun h=>h ▸ p7) (fun he=>(List.mem_singleton.1 he) ▸ p6),by simp,by simpa using hne6⟩;have h:=aD (P:=Tryz.prog) (yh (P:=Tryz.prog) (p:=6) (t:=24) (K:=[(3,pt g3),(6,pt g6),(7,pt g7),(8,pt g8)]) rfl (Hs.there Hs.here) (vs:=zc (ud p ys)) rfl rfl a2 W3 (Kle.kn f3 Kle.a) hm3) (ti (P:=Tryz.prog) (p:=7) (t:=54) (K:=[(3,pt g3),(6,pt g6),(7,pt g7),(8,pt g8)]) rfl Hs.here (v:=.int .i64 0) rfl a2 W3 (Kle.kn f3 Kle.a) hm3);refine⟨.tuple #[zi (ud p ys),.int .i64 0],?_,_,[],rfl,hB3,jV.nil _ _,rfl⟩;rw[yu,show Tryz.f154.results=#[.cell 6 24,.cell 7 54] from rfl,Sem.run_bind,h];rfl
 case stop =>
  rintro D c pre W _ _ h _;exact h.elim
end Sx
end
section
open Go Go.RowKit Go.BigFrame
namespace Sx
attribute [local irreducible] DQ WC WO
theorem iB (pa:Option Addr) (la ca:Nat):Fn Tryz.prog 228 [.slice pa la ca] Tr (Ex (fun s=>.func (.func 264) #[] #[pt (s 0)]) (fun s=>[⟨s 0,46,[.slice pa la ca]⟩]) (fun _=>True)):=by
 refine Fn.enter Tryz.func228 rfl rfl rfl ?_;intro w hw
 repeat (first|refine Ta ?_|refine Tm fun _=>?_|refine WO.does (zH rfl rfl) ?_|refine Tc ?_|exact Tz)
 rename_i g1;exact WX.ret1 rfl (zP rfl) [⟨g1,46,[.slice pa la ca]⟩] (Lle.cons Pk.here rfl Lle.nil) ⟨fun _=>g1,rfl,rfl,trivial⟩
theorem adq (m:Nat) {α:Type} (fi fa:α→Nat) (xs:List α) (pa:Option Addr) (gA bA oA cA l:Nat) (J Jx:List α→World→Prop) (hn:xs.length≤1099511627776) (hJo:∀ s A B,J s A→Mod [] A B→J s B) (hJxo:∀ s A B,Jx s A→Mod [] A B→Jx s B)
  (hY:∀ pre x W,J pre W→pre.length<xs.length→YieldAt (fw none) (m - 1) Tryz.prog l #[.int .i64 (fi x:Int),zi (fa x)] W fun e W'=>(e=.returned (.bool true)∧J (pre++[x]) W'∧yv [gA,bA] W W'∧W.heap.size≤W'.heap.size)∨(e=.returned (.bool false)∧Jx (pre++[x]) W'))
  (W:World) (hA:Seg W gA 0 [.slice pa xs.length cA]) (hpa:xs≠[]→pa=some ⟨bA,oA,none⟩) (hfi:∀ k x,xs[k]?=some x→fi x=xs.length - 1 - k) (hSA:∀ k x,xs[k]?=some x→Seg W bA (oA+(xs.length - 1 - k)*4) (zc (fa x))) (hlt:∀ k∈[gA,bA],k<W.heap.size) (h0:J [] W) :
  CallsIn (fw none) m Tryz.prog 264 [.func (.yield l) #[] #[],pt gA].toArray W fun e W'=>(∃ v,e=.returned v)∧((∃ ys,ys=xs∧J ys W')∨(∃ pre,True∧Jx pre W')):=by
 refine uj (n:=19) Tryz.func264 rfl rfl rfl ?_;have hQ:¬ LetsOut (bodyPost Tryz.prog Tryz.f264 fun e W'=>(∃ v,e=.returned v)∧((∃ ys,ys=xs∧J ys W')∨(∃ pre,True∧Jx pre W'))):=by
  rintro ⟨a,w,⟨v,h⟩,_⟩;cases h
 have e0:IntKind.i64.wrap ((xs.length:Int) - 1)=(xs.length:Int) - 1 - ((0:Nat):Int):=zl Om Om Om;refine WI.seq (WI.region ?_ (by exact hQ));refine WO.does (zn (hs:=hA)) ?_;refine WO.auto (k:=?_);refine WO.does (zE rfl rfl e0) ?_;refine WO.auto (k:=?_);refine WO.nil (WX.seqI ?_);refine WI.block ?_;refine WI.loopW (σ:=Nat) (fun k=>[(0,.func (.yield l) #[] #[]),(1,pt gA),(3,.int .i64 ((xs.length:Int) - 1 - (k:Int)))]) (fun k w=>k≤xs.length∧J (xs.take k) w∧yv [gA,bA] W w∧W.heap.size≤w.heap.size) (fun k=>xs.length - k) 0 (fun w hw=>⟨Nat.zero_le _,?_,?_,hw.mod.size⟩) ?_ ?_
 ·have:=hJo [] W w h0 hw.mod;simpa using this
 ·exact yv.of_mod hw.mod (fun k hk=>⟨hlt k hk,by simp⟩)
 ·repeat (first|exact Kle.nil|refine Kle.cons rfl rfl ?_)
 ·rintro k w1 ⟨hk,hJ,hKp,hsz⟩;have hlw:∀ j∈[gA,bA],j<w1.heap.size:=fun j hj=>Nat.lt_of_lt_of_le (hlt j hj) hsz;have hA':=hKp.seg (b:=gA) Sm hA;refine WI.seq (WI.seq (WI.region ?_ (by exact hQ)));refine WO.auto (k:=?_)
  by_cases hkl:k<xs.length
  ·rw[show (xs.length:Int) - 1 - (k:Int)=((xs.length - 1 - k:Nat):Int) by omega];refine WO.does (vj rfl rfl Om) ?_;refine WO.nil (WX.seqI ?_);refine WI.condT rfl ?_;refine WI.skip (WX.seqI ?_);obtain⟨x,hx⟩ : ∃ x,xs[k]?=some x:=⟨_,List.getElem?_eq_getElem hkl⟩;have hSA':=hKp.seg (b:=bA) Sm (hSA k x hx);have hfx:=hfi k x hx;have hx' : xs.take k++[x]=xs.take (k+1):=by rw[List.take_add_one,hx];rfl
   have hix:xs.length - 1 - k<xs.length:=by omega
   obtain rfl:=hpa (by rintro rfl;simp at hkl);generalize hj:xs.length - 1 - k=j at *;have e1:IntKind.i64.wrap ((j:Int) - 1)=(xs.length:Int) - 1 - ((k+1:Nat):Int):=zl Om Om Om;refine WI.seq ?_;refine WI.block ?_;refine WI.seq (WI.regionY 6 (by exact hQ) ?_);simp only[List.take_succ_cons,List.take_zero,List.drop_succ_cons,List.drop_zero];refine WO.does (vD rfl) ?_;refine WO.does (vD rfl) ?_;refine WO.does (zn (hs:=hA')) ?_;refine WO.does (vD rfl) ?_;refine WO.does (zb (o':=oA+j*4) rfl rfl hix rfl) ?_;refine WO.does (zm (vs:=zc (fa x)) (hs:=hSA')) ?_;refine WO.nil (WX.woi ?_);refine WOI.yield (vs:=[.int .i64 (j:Int),zi (fa x)]) rfl rfl (fun w2 h2=>hfx ▸ hY (xs.take k) x w2 (hJo _ _ _ hJ h2.mod) (by rw[List.length_take];omega)) (fun w2 e w3 h2 hR=>?_);have hKw:yv [gA,bA] W w2:=hKp.trans (yv.of_mod h2.mod (fun j hj=>⟨hlw j hj,by simp⟩));have hs2:=Nat.le_trans hsz h2.mod.size
   rcases hR with ⟨rfl,hR,hK3,hs3⟩|⟨rfl,hR⟩
   ·refine⟨true,rfl,?_⟩;rw[hx'] at hR;refine WOI.of (by exact hQ) ?_;refine WO.auto (k:=?_);refine WO.nil (WX.seqI ?_);refine WI.condF rfl ?_;refine WI.skip (WX.blk_normal (WX.seqI ?_));refine WI.region ?_ (by exact hQ);refine WO.auto (k:=?_);refine WO.does (zE rfl rfl e1) ?_;refine WO.auto (k:=?_);refine WO.nil ?_;refine WX.metW (k+1) Om Kle.a (fun w4 h4=>⟨by omega,hJo _ _ _ hR h4.mod,?_,Nat.le_trans hs2 (Nat.le_trans hs3 h4.mod.size)⟩);exact (hKw.trans hK3).trans (yv.of_mod h4.mod (fun j hj=>⟨Nat.lt_of_lt_of_le (hlt j hj) (Nat.le_trans hs2 hs3),by simp⟩))
   ·refine⟨false,rfl,?_⟩;rw[hx'] at hR;refine WOI.of (by exact hQ) ?_;refine WO.auto (k:=?_);refine WO.nil (WX.seqI ?_);refine WI.condT rfl ?_;refine WI.ret ?_;refine WX.blk_ret (WX.then_ret (WX.then_ret (WX.blk_ret ?_)));intro a w4 g1 g2 g3 g4;exact bodyPost_ret (results_none rfl _ _ _) g1 ⟨⟨_,rfl⟩,.inr ⟨_,trivial,hJxo _ _ _ hR g4.mod⟩⟩
  ·refine WO.does (yq rfl rfl Om) ?_;refine WO.nil (WX.seqI ?_);refine WI.condF rfl ?_;refine WI.exit (WX.then_exit (WX.then_exit (WX.blk_exit ?_)));intro a w4 g1 g2 g3 g4;obtain rfl:k=xs.length:=by omega
   refine bodyPost_end (results_none rfl _ _ _) g1 ⟨⟨_,rfl⟩,.inl ⟨xs,rfl,?_⟩⟩;have:=hJo _ _ _ hJ g4.mod;rwa [List.take_length] at this
abbrev CoT (q:Nat):Type:={ x:Nat × Nat // x.2<q }
def sU {q:Nat} (l:LN) (h:∀ c∈l,c<q):Nat→List (CoT q)
 | 0=>[]
 | j+1=>if hj:j<l.length then ⟨(j,l[j]),h _ (List.getElem_mem hj)⟩::sU l h j else []
theorem o7 {q:Nat} {l:LN} (h:∀ c∈l,c<q):∀ j,j≤l.length→(sU l h j).length=j
 | 0,_=>rfl
 | j+1,hj=>by rw[sU,dif_pos Om,List.length_cons,o7 h j Om]
theorem nE {q:Nat} {l:LN} (h:∀ c∈l,c<q):∀ j,j≤l.length→∀ k x,(sU l h j)[k]?=some x→x.1.1=j - 1 - k∧l[j - 1 - k]?=some x.1.2
 | 0,_,k,x,hx=>by simp[sU] at hx
 | j+1,hj,k,x,hx=>by
  rw[sU,dif_pos Om] at hx;cases k with
  | zero =>
   simp at hx;rw[← hx];simp
  | succ k =>
   have:=nE h j Om k x (by simpa using hx);rw[show j+1 - 1 - (k+1)=j - 1 - k by omega];exact this
theorem qL {q:Nat} {l:LN} (h:∀ c∈l,c<q) (st:Nat→Nat→Nat):∀ j,j≤l.length→∀ r,(sU l h j).foldl (fun r (x:CoT q)=>st r x.1.2) r=(l.take j).reverse.foldl st r
 | 0,_,r=>by simp[sU]
 | j+1,hj,r=>by
  have e:l.take (j+1)=l.take j++[l[j]' Om]:=by rw[List.take_add_one,List.getElem?_eq_getElem (show j<l.length by omega)];rfl
  rw[sU,dif_pos Om,List.foldl_cons,qL h st j Om,e,List.reverse_append];rfl
def vn (q x:Nat) (l:List (CoT q)):Nat:=l.foldl (fun r c=>(r*x%q+c.1.2)%q) 0
theorem qt (q x:Nat) (l:List (CoT q)) (c:CoT q):vn q x (l++[c])=(vn q x l*x%q+c.1.2)%q:=by unfold vn;rw[List.foldl_append];rfl
theorem cF {q x:Nat} (h:1<q) (l:List (CoT q)):vn q x l<q:=by
 rcases List.eq_nil_or_concat l with rfl|⟨l,c,rfl⟩
 ·show 0<q;omega
 ·rw[List.concat_eq_append,qt];exact Nat.mod_lt _ Om
theorem iC (q x:Nat) (l:LN):j6 q x l=l.foldr (fun c r=>(r*x%q+c)%q) 0:=by
 induction l with
 | nil=>rfl
 | cons c r ih=>simp only[j6,List.foldr_cons,ih]
theorem lE {q:Nat} (x:Nat) {l:LN} (h:∀ c∈l,c<q):vn q x (sU l h l.length)=ya l x%q:=by
 rw[← cG,iC,vn,qL h (fun r c=>(r*x%q+c)%q) _ (Nat.le_refl _),List.take_length,List.foldl_reverse]
end Sx
end
section
open Go Go.RowKit Go.BigFrame
namespace Sx
theorem WC.unf {P:Program} {w0:World} {gs:LN} {n:Nat} {c:Code} {Q:Exit→Act→World→Prop} {K:List (Nat × Value)} {L:List Ent} (k:∀ a w,a.defers=[]→a.tmps.size=n→Kn K a→Me w0 gs L w→c.wp P Q a w):WC P w0 gs n c Q K L:=k
attribute [local irreducible] wd DQ WO WC WT
theorem iz (m:Nat) {α:Type} (fi fa:α→Nat) (xs:List α) (pa:Option Addr) (gA bA oA cA:Nat) (hn:xs.length≤1099511627776) (w:World) (hlt:∀ k∈[gA,bA],k<w.heap.size)
  (hA:Seg w gA 0 [.slice pa xs.length cA]) (hpa:xs≠[]→pa=some ⟨bA,oA,none⟩) (hfi:∀ k x,xs[k]?=some x→fi x=xs.length - 1 - k) (hSA:∀ k x,xs[k]?=some x→Seg w bA (oA+(xs.length - 1 - k)*4) (zc (fa x))) :
  SeqStopsK Fence.wide m Tryz.prog 264 #[pt gA] (fun x:α=>#[.int .i64 (fi x:Int),zi (fa x)]) (KpB [gA,bA]) (fun ys=>ys=xs) (fun _=>True) xs.length w:=fun l J Jx W hW hJ hJx hY h0=>by
 have hk:yv [gA,bA] w W:=fun k hk=>hW.block k (hlt k hk)
 refine adq m fi fa xs pa gA bA oA cA l J Jx hn (fun s A B h hm=>hJ s A B none h ⟨hm.os,hm.tape,hm.output,hm.size,fun k hk _=>hm.block k hk Sm⟩ Sm) (fun s A B h hm=>hJx s A B none h ⟨hm.os,hm.tape,hm.output,hm.size,fun k hk _=>hm.block k hk Sm⟩ Sm)
  hY W (hk.seg Sm hA) hpa hfi (fun k x h=>hk.seg Sm (hSA k x h)) (fun k hk=>Nat.lt_of_lt_of_le (hlt k hk) hW.size) h0
section
variable (p q g h:Nat)
theorem aaS (l:LN) (pt:Option Addr) (c x:Nat) (hl:∀ a∈l,a<ze) (hn:l.length≤1099511627776) (hq:q<ze) (hx:x<ze) (hno:(uf q l && decide (x<q))=false) :
  Fn Tryz.prog 187 [vI p q g h,.slice pt l.length c,zi x] (RdF zc (.slice pt l.length c) l) (Is (.tuple #[zi 0,.int .i64 1])):=by
 have hM1:=kF p q g h l pt c hl hn hq;cases hb1:uf q l with
 | false =>
  rw[hb1] at hM1;refine Fn.enter Tryz.func187 rfl rfl rfl ?_;intro w hw
  repeat (first|refine Ta ?_|refine Tm fun _=>?_|refine WO.acallR (hc:=hM1) (hR:=fun w hm=>hw.mod hm.mod) (k:=?_)|refine Tc ?_|exact Tz)
  done
 | true =>
  have h1:=(vH hb1).1;have hM2:=fun b=>kF p q g h [x] (some ⟨b,0,none⟩) 1 (by simpa using hx) (by show 1≤1099511627776;omega) hq;have hxq:decide (x<q)=false:=by rw[hb1,Bool.true_and] at hno;exact hno
  rw[show uf q [x]=false by unfold uf;rw[List.all_cons,hxq,Bool.false_and,Bool.and_false]] at hM2;rw[hb1] at hM1;refine Fn.enter Tryz.func187 rfl rfl rfl ?_;intro w hw
  repeat (first|refine Ta ?_|refine Tm fun _=>?_|(refine WO.makes (zh (cs:=zc x) rfl Dt rfl) ?_;intro _)|refine WO.acallR (hc:=hM1) (hR:=fun w hm=>hw.mod hm.mod) (k:=?_)|refine WO.acallR (hc:=hM2 _) (hR:=fun w hm=>RdF.seg (f:=zc) (xs:=[x]) (r:=[]) (Hs.sg hm)) (k:=?_)|refine Tc ?_|exact Tz)
  done
theorem oR (l:LN) (pz:Option Addr) (c x:Nat) (hl:∀ a∈l,a<ze) (hn:l.length≤1099511627776) (hq:q<ze) (hx:x<ze) (hb1:uf q l=true) (hxq:x<q) :
  Fn Tryz.prog 187 [vI p q g h,.slice pz l.length c,zi x] (RdF zc (.slice pz l.length c) l) (Is (.tuple #[zi (ya l x%q),.int .i64 0])):=by
 have hM1:=kF p q g h l pz c hl hn hq;have hM2:=fun b=>kF p q g h [x] (some ⟨b,0,none⟩) 1 (by simpa using hx) (by show 1≤1099511627776;omega) hq;obtain⟨h1,hlq⟩:=vH hb1;rw[show uf q [x]=true by unfold uf;rw[List.all_cons,decide_eq_true h1,decide_eq_true hxq];rfl] at hM2;rw[hb1] at hM1;have hBk:=iB pz l.length c;have hlen:=o7 hlq l.length (Nat.le_refl _);have hget:=nE hlq l.length (Nat.le_refl _);rw[← lE x hlq];generalize sU l hlq l.length=xs at *;refine fun w hw=>tZ (n:=40) 3 Tryz.func187 rfl rfl rfl ?_
 repeat (first|refine Ta ?_|refine Tm fun _=>?_|(refine WO.makes (zh (cs:=zc x) rfl Dt rfl) ?_;intro _)|refine WO.acallR (hc:=hM1) (hR:=fun w hm=>hw.mod hm.mod) (k:=?_)|refine WO.acallR (hc:=hM2 _) (hR:=fun w hm=>RdF.seg (f:=zc) (xs:=[x]) (r:=[]) (Hs.sg hm)) (k:=?_)|refine WO.acallX (hc:=hBk) (hR:=fun _ _=>trivial) (k:=fun s _=>?_)|refine Tc ?_|exact Tz)
 rename_i g3 g5 g6 gX gF g8 g9 hs0;clear hs0;generalize s 0=gA;refine WC.ndp' (fun hnd=>?_);refine WC.mine (fun hmn=>?_);simp only[List.map_append,List.map_cons,List.map_nil,List.cons_append,List.nil_append] at hnd hmn;refine WC.unf (fun a w1 d1 d2 d3 d4=>?_);have lF:=(d4.ok ⟨gF,_,_⟩ (Hs.mem Hs.a)).lt;have l5:=(d4.ok ⟨g5,_,_⟩ (Hs.mem Hs.a)).lt;have l6:=(d4.ok ⟨g6,_,_⟩ (Hs.mem Hs.a)).lt;have l8:=(d4.ok ⟨g8,_,_⟩ (Hs.mem Hs.a)).lt;have l9:=(d4.ok ⟨g9,_,_⟩ (Hs.mem Hs.a)).lt;have lA:=(d4.ok ⟨gA,_,_⟩ (Hs.mem Hs.a)).lt;have sA:=(d4.ok ⟨gA,_,_⟩ (Hs.mem Hs.a)).seg 0;simp only[List.drop_zero] at lF l5 l6 l8 l9 lA sA;have hn0:=d4.mod.size;have B9:w.heap.size≤g9:=(hmn ⟨g9,_,_⟩ (Hs.mem Hs.a)).resolve_right Sm;have BF:w.heap.size≤gF:=(hmn ⟨gF,_,_⟩ (Hs.mem Hs.a)).resolve_right Sm;have B6:w.heap.size≤g6:=(hmn ⟨g6,_,_⟩ (Hs.mem Hs.a)).resolve_right Sm;have hne:gA≠gF∧gA≠g9∧g8≠gF∧g8≠g9∧g5≠gF∧g5≠g9∧gF≠g9∧g9≠g6:=by
  refine⟨?_,?_,?_,?_,?_,?_,?_,?_⟩<;>(intro e;simp[e] at hnd)
 obtain⟨hne1,hne2,hne3,hne4,hne5,hne6,hne7,hne8⟩:=hne;clear hnd hmn;have hB:∃ bA oA,(xs≠[]→pz=some ⟨bA,oA,none⟩)∧bA<w1.heap.size∧bA≠gF∧bA≠g9∧∀ k y,l[k]?=some y→Seg w1 bA (oA+k*4) (zc y):=by
  by_cases hne0:l=[]
  ·refine⟨gA,0,fun hx=>absurd (List.eq_nil_of_length_eq_zero (by rw[hlen,hne0];rfl)) hx,lA,hne1,hne2,fun k y hk=>by rw[hne0] at hk;simp at hk⟩
  ·obtain⟨pt',c',e,hpc⟩:=id hw;cases e
   rcases hpc with ⟨_,h0⟩|⟨b,o,rfl,hs⟩
   ·exact absurd h0 hne0
   ·have hb:=RdF.lt (k:=3) (f:=zc) (fun _=>rfl) hw hne0;refine⟨b,o,fun _=>rfl,by omega,by omega,by omega,fun k y hk=>?_⟩;have hs1:Seg w1 b o (l.flatMap zc):=hs.mod d4.mod Sm;exact hs1.sub (vX (f:=zc) (k:=4) (fun _=>rfl) hk)
 obtain⟨bA,oA,hpa,lB,hbF,hb9,hSeg⟩:=hB;have hks:∀ k∈[gA,bA],k<w1.heap.size∧k≠gF∧k≠g9:=by
  intro k hk;simp at hk;omega
 rw[← hlen] at sA;refine (wpIn_wide (n:=3)).1 ?_
 refine wpIn_rangeFunc_ownH (F:=Fence.wide) rfl Om (gf:=264) (lb:=#[pt gA]) (d3.eval (x:=.tmp 29) rfl) trivial (enters_of Tryz.func264 Kr rfl)
  (iz 2 (fun y:CoT q=>y.1.1) (fun y=>y.1.2) xs pz gA bA oA c Om w1 (fun k hk=>(hks k hk).1) sA hpa (fun k y hk=>by rw[hlen];exact (hget k y hk).1) (fun k y hk=>by rw[hlen];exact hSeg _ _ (hget k y hk).2))
  KpB.trans (KpB.put (fun k hk=>(hks k hk).1)) (Below.refl _ _) (fun _=>rfl)
  (fun pre W=>Me w [] [⟨gF,336,fdC p q g h 0⟩,⟨g9,24,zc (vn q x pre)⟩,⟨g8,334,[pt gF]⟩,⟨g6,24,zc 0⟩,⟨g5,24,zc x⟩] W∧w1.heap.size≤W.heap.size)
  (fun _ _ _=>False)
  (fun pre A B row hs hg hr=>⟨hs.1.own hn0 hg hr,Nat.le_trans hs.2 hg.size⟩)
  (fun _ _ _ _ _ hs _ _=>hs)
  ⟨Lle.me (L':=[⟨gF,336,fdC p q g h 0⟩,⟨g9,24,zc (vn q x [])⟩,⟨g8,334,[pt gF]⟩,⟨g6,24,zc 0⟩,⟨g5,24,zc x⟩]) (by repeat (first|exact Lle.nil|refine Lle.c ?_)) d4,Nat.le_refl _⟩
  (fun y a' W=>a'.defers=[]∧a'.tmps.size=40∧∃ q11,Kn [(5,pt g5),(6,pt g6),(8,pt g8),(9,pt g9),(11,pt q11)] a'∧(⟨q11,24,zc y.1.2⟩ : Ent).ok W∧w1.heap.size≤q11)
  (fun y a' _ A B row ⟨e1,e2,q11,e3,e4,e5⟩ hg hr=>⟨e1,e2,q11,e3,e4.own hg hr,e5⟩)
  ?assign ?body ?done ?stop
 case assign =>
  intro lr pre y W K hI hK;have hQ:¬ LetsOut (Exit.then K (fun _ _ _=>False)):=fun ⟨_,_,h⟩=>h;have hkn:Kn ([(30,.int .i64 (y.1.1:Int)),(31,zi y.1.2)]++[(5,pt g5),(6,pt g6),(8,pt g8),(9,pt g9)]) { tmps:=((#[30,31]:Array Tmp).zip #[.int .i64 (y.1.1:Int),zi y.1.2]).foldl (fun t (p,v)=>t.setIfInBounds p v) a.tmps,defers:=[] }:=by
   have k00:Kn [(5,pt g5),(6,pt g6),(8,pt g8),(9,pt g9)] a:=Kle.kn d3 Kle.a;have k0:Kn [(5,pt g5),(6,pt g6),(8,pt g8),(9,pt g9)] ({ a with defers:=[] }:Act):=k00;have k1:=k0.put (d:=30) (by show 30<a.tmps.size;omega) (.int .i64 (y.1.1:Int));have k2:=k1.put (d:=31) (by rw[yk];show 31<a.tmps.size;omega) (zi y.1.2);have k3:Kn ([(30,.int .i64 (y.1.1:Int)),(31,zi y.1.2)]++[(5,pt g5),(6,pt g6),(8,pt g8),(9,pt g9)]) _:=Kle.kn k2 Kle.a;intro t v ht;have k4:=k3 t v ht;simpa [Act.put,Array.zip] using k4
  suffices HH:WI (some lr) 1 Tryz.prog W [] 40 _ (Exit.then K (fun _ _ _=>False)) ([(30,.int .i64 (y.1.1:Int)),(31,zi y.1.2)]++[(5,pt g5),(6,pt g6),(8,pt g8),(9,pt g9)]) [] from HH _ W rfl (by simp[d2]) hkn (Me.refl W [])
  repeat (first|refine WO.nil ?_|refine WO.skip ?_|refine WX.seqI ?_|refine WI.seq ?_|refine WI.region ?_ (by exact hQ)|refine WO.autoS (k:=?_)|(refine WO.autoM (k:=?_);intro _)|refine WO.auto (k:=?_)|refine WO.does yF ?_|refine WO.does u4 ?_|refine WI.ret ?_|refine WI.skip ?_|refine WX.then_ret ?_|refine WX.noPanic ?_|refine WX.blk_normal ?_|refine WX.blk_ret ?_|refine WX.then_exit ?_|refine WX.blk_exit ?_|refine WX.blk_pass rfl ?_|refine WI.exit ?_|refine WI.block ?_|refine WX.scp_normal ?_|refine WX.scp_ret ?_|refine WX.scp_exit ?_|refine WI.condT rfl ?_|refine WI.condF rfl ?_)
  rename_i q11;intro a2 W2 e1 e2 e3 e4;have o11:=e4.ok ⟨q11,_,_⟩ (Hs.mem Hs.a);have m11:=(e4.mine ⟨q11,_,_⟩ (Hs.mem Hs.a)).resolve_right Sm
  refine hK a2 W2 ⟨e4.mod.size,fun k o _ hk _=>(e4.mod.block k (Array.getElem?_eq_some_iff.1 hk).1 Sm).trans hk⟩ ⟨yv.of_mod e4.mod (fun k hk=>⟨Nat.lt_of_lt_of_le (hks k hk).1 hI.2,by simp⟩),e4.mod.size⟩ ⟨hI.1.below e4.mod.below,Nat.le_trans hI.2 e4.mod.size⟩
   ⟨e1,e2,q11,Kle.kn e3 Kle.a,o11,Nat.le_trans hI.2 m11⟩
 case body =>
  rintro lr pre y a' W hl _ ⟨hI,hIs⟩ ⟨e1,e2,q11,e3,o11,hq11⟩ _;obtain⟨⟨yi,yc⟩,hyq⟩:=y;dsimp only at o11 hyq;have hOl:=cF (x:=x) h1 pre;have hsn:=qt q x pre ⟨(yi,yc),hyq⟩;dsimp only at hsn;have hTl:vn q x pre*x%q<q:=Nat.mod_lt _ Om;have hT:=cU p q g h gF (vn q x pre) x 0 (Nat.lt_trans hOl hq) hx hq;rw[show zK (vn q x pre) x q=true by simp[zK,h1,hOl,hxq]] at hT;have hT' : FnM Tryz.prog 230 [pt gF,zi (vn q x pre),zi x] gF 336 (fdC p q g h 0) (fdC p q g h 0) Tr (zi (vn q x pre*x%q)):=hT;have hP:=lU p q g h gF (vn q x pre*x%q) yc 0 (Nat.lt_trans hTl hq) (Nat.lt_trans hyq hq) hq;rw[show zK (vn q x pre*x%q) yc q=true by simp[zK,h1,hTl,hyq]] at hP;have hP' : FnM Tryz.prog 229 [pt gF,zi (vn q x pre*x%q),zi yc] gF 336 (fdC p q g h 0) (fdC p q g h 0) Tr (zi (vn q x (pre++[⟨(yi,yc),hyq⟩]))):=by rw[hsn];exact hP
  clear hT hP hsn;have iF:=hI.ok ⟨gF,_,_⟩ (Hs.mem Hs.a);have i9:=hI.ok ⟨g9,_,_⟩ (Hs.mem Hs.a);have s8:=(hI.ok ⟨g8,_,_⟩ (Hs.mem Hs.a)).seg 0;have s5:=(hI.ok ⟨g5,_,_⟩ (Hs.mem Hs.a)).seg 0;have s11:=o11.seg 0;have b8:g8 ∉ [gF,g9]:=by simp;omega
  have b5:g5 ∉ [gF,g9]:=by simp;omega
  have b11:q11 ∉ [gF,g9]:=by simp;omega
  simp only[List.drop_zero] at s8 s5 s11;have hm0:Me W [gF,g9] [⟨gF,336,fdC p q g h 0⟩,⟨g9,24,zc (vn q x pre)⟩] W:=⟨.refl _ _,fun e he=>(List.mem_cons.1 he).elim (fun h=>h ▸ iF) (fun he=>(List.mem_singleton.1 he) ▸ i9),by simp,by simpa using hne7⟩;generalize hRg:vn q x (pre++[⟨(yi,yc),hyq⟩])=R at *;have hRR:=Lib.hid hRg;clear hRg;generalize hgO:vn q x pre=O at *;generalize O*x%q=T at *;have hQ:¬ LetsOut (ownPostG w1.heap.size (KpB [gA,bA]) (fun (pre:List (CoT q)) W=>Me w [] [⟨gF,336,fdC p q g h 0⟩,⟨g9,24,zc (vn q x pre)⟩,⟨g8,334,[pt gF]⟩,⟨g6,24,zc 0⟩,⟨g5,24,zc x⟩] W∧w1.heap.size≤W.heap.size) (fun _ _ _=>False) (pre++[⟨(yi,yc),hyq⟩]) W):=fun ⟨_,_,h⟩=>h
  suffices HH:WI (some lr) 1 Tryz.prog W [gF,g9] 40 _ (ownPostG w1.heap.size (KpB [gA,bA]) (fun (pre:List (CoT q)) W=>Me w [] [⟨gF,336,fdC p q g h 0⟩,⟨g9,24,zc (vn q x pre)⟩,⟨g8,334,[pt gF]⟩,⟨g6,24,zc 0⟩,⟨g5,24,zc x⟩] W∧w1.heap.size≤W.heap.size) (fun _ _ _=>False) (pre++[⟨(yi,yc),hyq⟩]) W) [(5,pt g5),(6,pt g6),(8,pt g8),(9,pt g9),(11,pt q11)] [⟨gF,336,fdC p q g h 0⟩,⟨g9,24,zc O⟩] from HH a' W e1 e2 e3 hm0
  refine WI.block ?_;refine WI.mainA (by exact hQ) [4,6,7] [(0,pt gF),(1,pt gF),(2,zi O),(3,zi x),(5,zi yc)] Dt (fun A hA=>?_);refine WT.given [(5,pt g5),(8,pt g8),(9,pt g9),(11,pt q11)] [⟨g9,24,zc O⟩] Kr (Tlv.a (Tlv.a (Tlv.a (Tlv.a (Tlv.a (Tlv.nil) (h:=by refine Qux.does ?_;exact vV s11 (i:=0) rfl b11 (vs:=zc yc) rfl rfl)) (h:=by refine Qux.does ?_;exact vV s5 (i:=0) rfl b5 (vs:=zc x) rfl rfl))) (h:=by refine Qux.does ?_;exact vw s8 (i:=0) rfl b8 rfl)) (h:=by refine Qux.does ?_;exact vw s8 (i:=0) rfl b8 rfl)) (fun hc hT=>?_)
  suffices hS208:A [7,6,4] [(36,zi T),(38,zi R),(5,pt g5),(8,pt g8),(9,pt g9),(11,pt q11)] [⟨gF,336,fdC p q g h 0⟩,⟨g9,24,zc R⟩] by
   have hS80:A [6,4] [(36,zi T),(38,zi R),(5,pt g5),(8,pt g8),(9,pt g9),(11,pt q11)] [⟨gF,336,fdC p q g h 0⟩,⟨g9,24,zc O⟩]:=by
    refine (hA _ _ _).2 (WT.step [7] Dt hc hT ⟨⟨_,rfl,?_⟩,trivial⟩)
    ·refine Tw ?_;exact WT.go [] hA (hS208)
   have hS16:A [4] [(36,zi T),(5,pt g5),(8,pt g8),(9,pt g9),(11,pt q11)] [⟨gF,336,fdC p q g h 0⟩,⟨g9,24,zc O⟩]:=by
    refine (hA _ _ _).2 (WT.step [6] Dt hc hT ⟨⟨_,rfl,?_⟩,trivial⟩)
    ·refine WO.callM rfl hP' (by repeat (first|exact Rp.here|apply Rp.there)) (fun _ _=>trivial) Dt ?_ rfl rfl;exact WT.go [(38,zi R)] hA (hS80)
   have hS0:A [] [(5,pt g5),(8,pt g8),(9,pt g9),(11,pt q11)] [⟨gF,336,fdC p q g h 0⟩,⟨g9,24,zc O⟩]:=by
    refine (hA _ _ _).2 (WT.step [4] Dt hc hT ⟨⟨_,rfl,?_⟩,trivial⟩)
    ·refine WO.callM rfl hT' (by repeat (first|exact Rp.here|apply Rp.there)) (fun _ _=>trivial) Dt ?_ rfl rfl;exact WT.go [(36,zi T)] hA (hS16)
   exact WT.less ((hA _ _ _).1 hS0) Dt Kle.a (by repeat (first|exact Lle.nil|exact Lle.same|refine Lle.c ?_))
  refine (hA _ _ _).2 (WT.fin [4,6,7] 6 hc rfl Kr ?_);clear hc hT hA;refine WX.blk_normal ?_;intro a2 W2 f1 f2 f3 f4;refine⟨⟨f4.mod.size,fun k o hk0 hk _=>(f4.mod.block k (Array.getElem?_eq_some_iff.1 hk).1 (by simp;omega)).trans hk⟩,⟨yv.of_mod f4.mod (fun k hk=>⟨Nat.lt_of_lt_of_le (hks k hk).1 hIs,by simpa using (hks k hk).2⟩),f4.mod.size⟩,?_,Nat.le_trans hIs f4.mod.size⟩;rw[hRR.out];exact Me.callL (M:=[⟨gF,336,fdC p q g h 0⟩,⟨g9,24,zc O⟩]) hI f4
 case done =>
  rintro D ys W hD rfl ⟨hI,hIs⟩ hK;have i9:=hI.ok ⟨g9,_,_⟩ (Hs.mem Hs.a);have i6:=hI.ok ⟨g6,_,_⟩ (Hs.mem Hs.a);have s9:=i9.seg 0;simp only[List.drop_zero] at s9;have b9:g9 ∉ [g6]:=by simp;exact hne8
  have hm0:Me W [g6] [⟨g6,24,zc 0⟩] W:=⟨.refl _ _,by simpa using i6,by simp,by simp⟩;have hlD:D<W.heap.size:=(Array.getElem?_eq_some_iff.1 hK).1;refine WO.tail (w0:=W) (gs:=[g6]) (n:=40) (K:=[(6,pt g6),(9,pt g9)]) (L:=[⟨g6,24,zc 0⟩]) rfl d2 (Kle.kn d3 Kle.a) hm0 ?_
  repeat (first|refine WO.does (zm (hs:=s9) (hb:=b9)) ?_|refine Ta ?_|refine Tm fun _=>?_|refine Tc ?_|exact Tz)
  intro a2 W2 f1 f2 f3 f4;have hK2:W2.heap[D]?=some (.deferred (some [])):=(f4.mod.block D hlD (by simp;omega)).trans hK;refine wp_ret ?_;have hdf:(dfA ({ target:=.collected D,args:=#[] }::a.defers) a2).defers=[{ target:=.collected D,args:=#[] }]:=by simp[dfA,f1,d1]
  show LeavesInM Fence.wide 3 Tryz.prog Tryz.f187 a2.tmps _ (dfA ({ target:=.collected D,args:=#[] }::a.defers) a2).defers .returning W2;rw[hdf];refine⟨by simp,.inl ⟨_,_,rfl,run_takeDeferred hK2,?_⟩⟩;have f6:=f4.ok ⟨g6,_,_⟩ (Hs.mem Hs.a);have hB:Below w.heap.size w W2:=⟨f4.mod.os.trans hI.mod.os,f4.mod.tape.trans hI.mod.tape,f4.mod.output.trans hI.mod.output,Nat.le_trans hI.mod.size f4.mod.size,fun k hk=>(f4.mod.block k (Nat.lt_of_lt_of_le hk hI.mod.size) (by simp;omega)).trans (hI.mod.block k hk Sm)⟩;have hB3:=hB.trans (belowK_b (w:=w) (Nat.le_refl _) W2 D _ (.deferred none) Om hK2 rfl rfl);have p6:=f6.keep (w':=W2.putObj D (.deferred none)) (World.putObj_heap_other (by show g6≠D;omega));generalize W2.putObj D (.deferred none)=W3 at *;have hm3:Me W3 [g6] _ W3:=⟨.refl _ _,fun e he=>(List.mem_singleton.1 he) ▸ p6,by simp,by simp⟩;have h:=aD (P:=Tryz.prog) (yh (P:=Tryz.prog) (p:=6) (t:=24) (K:=[(7,.int .i64 0),(6,pt g6)]) rfl Hs.here (vs:=zc (vn q x ys)) rfl rfl a2 W3 (Kle.kn f3 Kle.a) hm3) (zP (P:=Tryz.prog) (K:=[(7,.int .i64 0),(6,pt g6)]) (t:=7) rfl a2 W3 (Kle.kn f3 Kle.a) hm3);refine⟨.tuple #[zi (vn q x ys),.int .i64 0],?_,_,[],rfl,hB3,jV.nil _ _,rfl⟩;rw[yu,show Tryz.f187.results=#[.cell 6 24,.tmp 7] from rfl,Sem.run_bind,h];rfl
 case stop =>
  rintro D c pre W _ _ h _;exact h.elim
end
end Sx
end
end Go.Proofs.YtiaibpcaloigkaaGreatDoor
