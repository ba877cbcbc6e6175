/- Part 51 of the proof. -/
import Derived.Test.YteibfbjpkjkejaaGreatDoorM50
set_option linter.unusedSimpArgs false
set_option linter.unusedVariables false
set_option maxHeartbeats 8000000
namespace Go.Proofs.YteibfbjpkjkejaaGreatDoor
section
open Go Go.RowKit Go.BigFrame
namespace Sx
attribute [local irreducible] DQ DQS WC WO WX wd
theorem nQ {α:Type} {f:α→List Value} {k:Nat}:∀ {xs:List α} {i:Nat} {x:α} {r:List Value},(∀ x∈xs,(f x).length=k)→xs[i]?=some x→cut (xs.flatMap f++r) (i*k) k=f x
 | [],i,x,_,_,h=>by simp at h
 | a::xs,0,x,r,hk,h=>by
  have e:a=x:=by simpa using h
  subst e;rw[Nat.zero_mul,List.flatMap_cons,List.append_assoc];unfold cut;rw[List.drop_zero,← hk a (by simp),List.take_left]
 | a::xs,i+1,x,r,hk,h=>by
  have:=nQ (r:=r) (fun y hy=>hk y (by simp[hy])) (show xs[i]?=some x by simpa using h);rw[List.flatMap_cons,List.append_assoc,Nat.succ_mul];unfold cut at this ⊢;rw[Nat.add_comm (i*k) k,← List.drop_drop,← hk a (by simp),List.drop_left,hk a (by simp)];exact this
end Sx
end
section
open Go Go.RowKit Go.BigFrame
namespace Sx
attribute [local irreducible] DQ DQS WC WO wd
theorem acj (P:Nat):Fn Tryz.prog 28 [pt P] Tr (Ex (fun s=>.func (.func 70) #[] #[pt (s 0)]) (fun s=>[⟨s 0,41,[pt P]⟩]) (fun _=>True)):=by
 refine Fn.enter Tryz.func28 rfl rfl rfl ?_;intro w hw
 repeat (first|refine Ta ?_|(refine Tm ?_;intro _)|refine WO.does (zX rfl rfl) ?_|refine Tc ?_|exact Tz)
 rename_i g1;exact WX.ret1 rfl (zr rfl) [⟨g1,41,[pt P]⟩] (Lle.cons Pk.here rfl Lle.nil) ⟨fun _=>g1,rfl,rfl,trivial⟩
def qe {α:Type} (hk:Nat→List α) (k:Nat):List α:=(List.range k).flatMap hk
theorem rl {α:Type} (hk:Nat→List α) (k:Nat):qe hk (k+1)=qe hk k++hk k:=by
 unfold qe;rw[List.range_succ,List.flatMap_append];simp
theorem fG {α:Type} (hk:Nat→List α) (k:Nat):∀ j,k≤j→(qe hk k).length≤(qe hk j).length
  | 0, h => by obtain rfl : k = 0 := by omega
               exact Nat.le_refl _
  | j+1,h=>by
    rcases Nat.lt_or_ge j k with h1|h1
    · obtain rfl:k=j+1:=by omega
      exact Nat.le_refl _
    · rw[rl,List.length_append];exact Nat.le_trans (fG hk k j h1) (Nat.le_add_right _ _)
theorem aa2 {α:Type} {hk:Nat→List α} {k i:Nat} (h:k<8) (hi:i<(hk k).length):(qe hk k++(hk k).take i).length<(qe hk 8).length:=by
 have:=fG hk (k+1) 8 h;rw[rl,List.length_append] at this;rw[List.length_append,List.length_take];omega
theorem aaT (l:Nat→Value):∀ k,k<8→[l 0,l 1,l 2,l 3,l 4,l 5,l 6,l 7][k]?=some (l k)
 | 0,_=>rfl
 | 1,_=>rfl
 | 2,_=>rfl
 | 3,_=>rfl
 | 4,_=>rfl
 | 5,_=>rfl
 | 6,_=>rfl
 | 7,_=>rfl
 | n+8,h=>absurd h (by omega)
theorem all_in (m:Nat) {α:Type} (fi:α→Nat) (fh:α→List Nat) (hk:Nat→List α) (pk:Nat→Option Addr) (bk ck:Nat→Nat) (BS:List Nat) (p q g h:Nat) (f sec:Int) (ns:Value) (ep gM P gB l:Nat) (lv:Nat→Value) (J Jx:List α→World→Prop)
  (hJo:∀ s A B,J s A→Mod [] A B→J s B) (hJxo:∀ s A B,Jx s A→Mod [] A B→Jx s B)
  (hY:∀ pre x W,J pre W→pre.length<(qe hk 8).length→YieldAt (fw none) (m - 1) Tryz.prog l #[.int .i64 (fi x:Int),hsV (fh x)] W fun e W'=>(e=.returned (.bool true)∧J (pre++[x]) W'∧zV BS W W'∧W.heap.size≤W'.heap.size)∨(e=.returned (.bool false)∧Jx (pre++[x]) W'))
  (W:World) (hlv:∀ k,k<8→lv k=.slice (pk k) (hk k).length (ck k)) (hn:∀ k,(hk k).length<1000000) (hb:∀ x,(byC (fh x)).length=32)
  (hB:Seg W gB 0 [pt P]) (hP:Seg W P 0 (plC p q g h f sec ns ep gM lv)) (hpa:∀ k,k<8→hk k≠[]→pk k=some ⟨bk k,0,none⟩∧bk k∈BS) (hfi:∀ k i x,k<8→(hk k)[i]?=some x→fi x=i) (hS:∀ k i x,k<8→(hk k)[i]?=some x→Seg W (bk k) (0+i*32) (byC (fh x))) (hlt:∀ k∈BS,k<W.heap.size) (h0:J [] W) :
  CallsIn (fw none) m Tryz.prog 70 [.func (.yield l) #[] #[],pt gB].toArray W fun e W'=>(∃ v,e=.returned v)∧((∃ ys,ys=qe hk 8∧J ys W')∨(∃ pre,True∧Jx pre W')):=by
 refine vq (n:=28) Tryz.func70 rfl rfl rfl ?_;have hQ:¬ LetsOut (bodyPost Tryz.prog Tryz.f70 fun e W'=>(∃ v,e=.returned v)∧((∃ ys,ys=qe hk 8∧J ys W')∨(∃ pre,True∧Jx pre W'))):=by
  rintro ⟨a,w,⟨v,h⟩,_⟩;cases h
 refine WI.seq (WI.region ?_ (by exact hQ));refine WO.does (zj (hs:=hB)) ?_;refine WO.auto (k:=?_);refine WO.auto (k:=?_);refine WO.does (zn (vs:=[lv 0,lv 1,lv 2,lv 3,lv 4,lv 5,lv 6,lv 7]) (hs:=hP) (hc:=rfl)) ?_;refine WO.auto (k:=?_);refine WO.nil (WX.seqI ?_);refine WI.block ?_;refine WI.loopW (σ:=Nat) (fun k=>[(0,.func (.yield l) #[] #[]),(10,.agg [lv 0,lv 1,lv 2,lv 3,lv 4,lv 5,lv 6,lv 7].toArray),(11,.int .i64 (k:Int))]) (fun k w=>k≤8∧J (qe hk k) w∧zV BS W w∧W.heap.size≤w.heap.size) (fun k=>8 - k) 0 (fun w hw=>⟨Nat.zero_le _,?_,?_,hw.mod.size⟩) ?_ ?_
 ·exact hJo [] W w h0 hw.mod
 ·exact zV.of_mod hw.mod (fun k hk=>⟨hlt k hk,by simp⟩)
 ·repeat (first|exact Kle.nil|refine Kle.cons rfl rfl ?_)
 ·rintro k w1 ⟨hk8,hJ,hKp,hsz⟩;refine WI.seq (WI.region ?_ (by exact hQ));refine WO.auto (k:=?_);refine WO.nil (WX.seqI ?_);refine WI.seq ?_
  by_cases hkl:k<8
  ·refine WI.condT (show some (Value.bool (decide ((k:Int)<8)))=some (Value.bool true) by rw[decide_eq_true (by omega)]) ?_;refine WI.skip (WX.seqI ?_);have ek:=hlv k hkl;have hnk:=hn k;refine WI.seq ?_;refine WI.block ?_;refine WI.seq (WI.region ?_ (by exact hQ));refine WO.does (rJ rfl rfl hkl rfl (aaT lv k hkl)) ?_;refine WO.auto (k:=?_);refine WO.nil (WX.seqI ?_);rw[ek];refine WI.seq (WI.region ?_ (by exact hQ));refine WO.auto (k:=?_);refine WO.auto (k:=?_);refine WO.auto (k:=?_);refine WO.nil (WX.seqI ?_);refine WI.block ?_;refine WI.loopW (σ:=Nat) (fun i=>[(0,.func (.yield l) #[] #[]),(10,.agg [lv 0,lv 1,lv 2,lv 3,lv 4,lv 5,lv 6,lv 7].toArray),(11,.int .i64 (k:Int)),(14,.slice (pk k) (hk k).length (ck k)),(15,.int .i64 ((hk k).length:Int)),(16,.int .i64 (i:Int))]) (fun i w=>i≤(hk k).length∧J (qe hk k++(hk k).take i) w∧zV BS W w∧W.heap.size≤w.heap.size) (fun i=>(hk k).length - i) 0 (fun w hw=>⟨Nat.zero_le _,?_,?_,Nat.le_trans hsz hw.mod.size⟩) ?_ ?_
   ·have:=hJo _ w1 w hJ hw.mod;simpa using this
   ·exact hKp.trans (zV.of_mod hw.mod (fun k hk=>⟨Nat.lt_of_lt_of_le (hlt k hk) hsz,by simp⟩))
   ·repeat (first|exact Kle.nil|refine Kle.cons rfl rfl ?_)
   ·clear hJ hKp hsz;rintro i w1 ⟨hi,hJ,hKp,hsz⟩;have hlw:∀ j∈BS,j<w1.heap.size:=fun j hj=>Nat.lt_of_lt_of_le (hlt j hj) hsz;refine WI.seq (WI.region ?_ (by exact hQ));refine WO.auto (k:=?_);refine WO.nil (WX.seqI ?_);refine WI.seq ?_
    by_cases hil:i<(hk k).length
    ·refine WI.condT (show some (Value.bool (decide ((i:Int)<((hk k).length:Int))))=some (Value.bool true) by rw[decide_eq_true (by omega)]) ?_;refine WI.skip (WX.seqI ?_);obtain⟨x,hx⟩ : ∃ x,(hk k)[i]?=some x:=⟨_,List.getElem?_eq_getElem hil⟩;obtain⟨epk,hbm⟩:=hpa k hkl (by rintro e;rw[e] at hil;simp at hil);have hS':=hKp.seg (b:=bk k) hbm (hS k i x hkl hx);have hfx:=hfi k i x hkl hx;have hbx:=hb x;have hx' : (qe hk k++(hk k).take i)++[x]=qe hk k++(hk k).take (i+1):=by rw[List.append_assoc,List.take_add_one,hx];rfl
     have hlX:=aa2 hkl hil;have e1:IntKind.i64.wrap ((i:Int)+1)=((i+1:Nat):Int):=zt (by omega) (by omega) (by omega);rw[epk];refine WI.seq ?_;refine WI.block ?_;refine WI.seq (WI.region ?_ (by exact hQ));refine WO.auto (k:=?_);refine WO.does (zc (o':=0+i*32) rfl rfl hil rfl) ?_;refine WO.does (zn (vs:=byC (fh x)) (hs:=hS') (hle:=Nat.le_refl _) (hc:=by rw[Nat.sub_self];exact zK hbx) (hl:=hbx)) ?_;(refine Tm ?_;intro gH);refine WO.auto (k:=?_);refine WO.stores (zB (vs:=byC (fh x)) (cs':=byC (fh x)) (hl:=hbx) (h1:=yr _) (hc:=yu (by rw[hbx];rfl)) (hle:=by rw[hbx];rfl)) ?_;refine WO.nil (WX.seqI ?_);refine WI.seq (WI.regionY 3 (by exact hQ) ?_);simp only[List.take_succ_cons,List.take_zero,List.drop_succ_cons,List.drop_zero];refine WO.does (yS rfl) ?_;refine WO.does (yS rfl) ?_;refine WO.does (zE (vs:=byC (fh x)) (hc:=zK hbx) (hl:=hbx)) ?_;refine WO.nil (WX.woi ?_);refine WOI.yield (vs:=[.int .i64 (i:Int),hsV (fh x)]) rfl rfl (fun w2 h2=>hfx ▸ hY (qe hk k++(hk k).take i) x w2 (hJo _ _ _ hJ h2.mod) hlX) (fun w2 e w3 h2 hR=>?_);have hKw:zV BS W w2:=hKp.trans (zV.of_mod h2.mod (fun j hj=>⟨hlw j hj,by simp⟩));have hs2:=Nat.le_trans hsz h2.mod.size
     rcases hR with ⟨rfl,hR,hK3,hs3⟩|⟨rfl,hR⟩
     ·refine⟨true,rfl,?_⟩;rw[hx'] at hR;refine WOI.of (by exact hQ) ?_;refine WO.auto (k:=?_);refine WO.nil (WX.seqI ?_);refine WI.condF rfl ?_;refine WI.skip (WX.blk_normal (WX.seqI ?_));refine WI.region ?_ (by exact hQ);refine WO.does (zl rfl rfl e1) ?_;refine WO.auto (k:=?_);refine WO.nil ?_;refine WX.metW (i+1) (by omega) (by repeat (first|exact Kle.nil|refine Kle.cons rfl rfl ?_)) (fun w4 h4=>⟨by omega,hJo _ _ _ hR h4.mod,?_,Nat.le_trans hs2 (Nat.le_trans hs3 h4.mod.size)⟩);exact (hKw.trans hK3).trans (zV.of_mod h4.mod (fun j hj=>⟨Nat.lt_of_lt_of_le (hlt j hj) (Nat.le_trans hs2 hs3),by simp⟩))
     ·refine⟨false,rfl,?_⟩;rw[hx'] at hR;refine WOI.of (by exact hQ) ?_;refine WO.auto (k:=?_);refine WO.nil (WX.seqI ?_);refine WI.condT rfl ?_;refine WI.ret ?_;refine WX.blk_ret (WX.then_ret (WX.then_ret (WX.blk_ret (WX.blk_ret (WX.then_ret (WX.then_ret (WX.blk_ret ?_)))))));intro a w4 g1 g2 g3 g4;exact bodyPost_ret (results_none rfl _ _ _) g1 ⟨⟨_,rfl⟩,.inr ⟨_,trivial,hJxo _ _ _ hR g4.mod⟩⟩
    ·refine WI.condF (show some (Value.bool (decide ((i:Int)<((hk k).length:Int))))=some (Value.bool false) by rw[decide_eq_false (by omega)]) ?_;refine WI.exit (WX.then_exit (WX.then_exit (WX.blk_exit ?_)));obtain rfl:i=(hk k).length:=by omega
     rw[List.take_length,← rl] at hJ;have e1:IntKind.i64.wrap ((k:Int)+1)=((k+1:Nat):Int):=zt (by omega) (by omega) (by omega);refine WX.blk_normal (WX.seqI ?_);refine WI.region ?_ (by exact hQ);refine WO.does (zl rfl rfl e1) ?_;refine WO.auto (k:=?_);refine WO.nil ?_;refine WX.metW (k+1) (by omega) (by repeat (first|exact Kle.nil|refine Kle.cons rfl rfl ?_)) (fun w4 h4=>⟨by omega,hJo _ _ _ hJ h4.mod,?_,Nat.le_trans hsz h4.mod.size⟩);exact hKp.trans (zV.of_mod h4.mod (fun j hj=>⟨hlw j hj,by simp⟩))
  ·refine WI.condF (show some (Value.bool (decide ((k:Int)<8)))=some (Value.bool false) by rw[decide_eq_false (by omega)]) ?_;refine WI.exit (WX.then_exit (WX.then_exit (WX.blk_exit ?_)));intro a w4 g1 g2 g3 g4;obtain rfl:k=8:=by omega
   exact bodyPost_end (results_none rfl _ _ _) g1 ⟨⟨_,rfl⟩,.inl ⟨_,rfl,hJo _ _ _ hJ g4.mod⟩⟩
end Sx
end
section
open Go Go.RowKit Go.BigFrame
namespace Sx
theorem ic {P:Program} {m:Nat} {fn:Func} {post:Value→List Ent→Prop} {w W:World} {K:List (Nat × Value)} {L N:List Ent} {v:Value} {a:Act} {D:Nat} {ds:List Deferred} (hd:ds=[{ target:=.collected D,args:=#[] }]) (hk:Kn K a) (hme:Me w [] L W) (hD:w.heap.size≤D) (hK:W.heap[D]?=some (.deferred (some [])))
  (hm:∀ e∈L,e.k.map=false) (hv:∀ a w',Kn K a→Me w [] L w'→(results fn a.tmps).run P w'=.ok v w') (hN:Lle N L) (hp:post v N):LeavesInM Fence.wide m P fn a.tmps (uc w post) ds .returning W:=by
 subst hd;refine⟨by simp,.inl ⟨_,_,rfl,run_takeDeferred hK,?_⟩⟩;have hne:∀ e∈L,e.g≠D:=fun e he h=>(hme.ok e he).far (hm e he) (by rw[h];exact hK) rfl;have hb:=hme.mod.below.trans (belowK_b (w:=w) (Nat.le_refl _) W D _ (.deferred none) hD hK rfl rfl);have h3:Me w [] L (W.putObj D (.deferred none)):=⟨.of_below hb [],fun e he=>(hme.ok e he).keep (World.putObj_heap_other (hne e he)),hme.mine,hme.nodup⟩;have hn:=hN.me h3;exact⟨v,hv a _ hk h3,v,N,rfl,hb,⟨hn.ok,fun e he=>(hn.mine e he).resolve_right (by simp),hn.nodup⟩,hp⟩
theorem all_stops (m:Nat) {α:Type} (fi:α→Nat) (fh:α→List Nat) (hk:Nat→List α) (pk:Nat→Option Addr) (bk ck:Nat→Nat) (BS:List Nat) (p q g h:Nat) (f sec:Int) (ns:Value) (ep gM P gB:Nat) (lv:Nat→Value) (w:World) (hgB:gB∈BS) (hPB:P∈BS)
  (hlv:∀ k,k<8→lv k=.slice (pk k) (hk k).length (ck k)) (hn:∀ k,(hk k).length<1000000) (hb:∀ x,(byC (fh x)).length=32)
  (hB:Seg w gB 0 [pt P]) (hP:Seg w P 0 (plC p q g h f sec ns ep gM lv)) (hpa:∀ k,k<8→hk k≠[]→pk k=some ⟨bk k,0,none⟩∧bk k∈BS) (hfi:∀ k i x,k<8→(hk k)[i]?=some x→fi x=i) (hS:∀ k i x,k<8→(hk k)[i]?=some x→Seg w (bk k) (0+i*32) (byC (fh x))) (hlt:∀ k∈BS,k<w.heap.size) :
  SeqStopsK Fence.wide m Tryz.prog 70 #[pt gB] (fun x:α=>#[.int .i64 (fi x:Int),hsV (fh x)]) (KpB BS) (fun ys=>ys=qe hk 8) (fun _=>True) (qe hk 8).length w:=fun l J Jx W hW hJ hJx hY h0=>by
 have hk1:zV BS w W:=fun k hk=>hW.block k (hlt k hk)
 refine all_in m fi fh hk pk bk ck BS p q g h f sec ns ep gM P gB l lv J Jx (fun s A B h hm=>hJ s A B none h ⟨hm.os,hm.tape,hm.output,hm.size,fun k hk _=>hm.block k hk (by simp)⟩ (by simp)) (fun s A B h hm=>hJx s A B none h ⟨hm.os,hm.tape,hm.output,hm.size,fun k hk _=>hm.block k hk (by simp)⟩ (by simp))
  hY W hlv hn hb (hk1.seg hgB hB) (hk1.seg hPB hP) hpa hfi (fun k i x h1 h2=>hk1.seg (hpa k h1 (by rintro e;rw[e] at h2;simp at h2)).2 (hS k i x h1 h2)) (fun k hk=>Nat.lt_of_lt_of_le (hlt k hk) hW.size) h0
end Sx
end
section
open Go Go.RowKit Go.BigFrame
namespace Sx
attribute [local irreducible] DQ DQS WC WO wd
theorem eo {t g:Nat} {B r:List Value}:∀ {n:Nat},∀ e∈rwL t g B r n,e.k.map=false
 | 0,e,he=>by simp[rwL] at he
 | n+1,e,he=>by simp[rwL] at he;rw[he];rfl
theorem ok_one {W:World} {g t:Nat} {u v:Value} (ht:t≠0) (h1:(⟨g,t,[u]⟩ : Ent).ok W) (h2:(⟨g,t,[v]⟩ : Ent).ok W):u=v:=by
 have a:=h1.row ht;rw[h2.row ht] at a;cases a;rfl
theorem Lle.skp {e:Ent} {L:List Ent}:∀ {L' : List Ent},Lle L' L→Lle L' (e::L)
 | [],_=>trivial
 | _::_,⟨cs,L2,h1,h2,h3⟩=>⟨cs,e::L2,.there h1,h2,Lle.skp h3⟩
abbrev dzC:List Value:=[.int .u64 0,.int .u8 0,.slice none 0 0,.slice none 0 0,.slice none 0 0,.int .u64 ((wd 0 0:Nat):Int),.int .u64 ((wd 1 0:Nat):Int),.int .u64 ((wd 2 0:Nat):Int),.int .u64 ((wd 3 0:Nat):Int),.int .u64 ((wd 0 0:Nat):Int),.int .u64 ((wd 1 0:Nat):Int),.int .u64 ((wd 2 0:Nat):Int),.int .u64 ((wd 3 0:Nat):Int)]
def ddC (ep:Nat) (x:Dd × Dk):List Value:=dlC ep x.1.d (.slice (some ⟨x.2.v,0,none⟩) x.1.V.length x.1.V.length) (.slice (some ⟨x.2.y,0,none⟩) x.1.Y.length x.1.Y.length) (.slice (some ⟨x.2.p,0,none⟩) x.1.P.length x.1.P.length) x.1.c x.1.s
theorem aaJ (ep:Nat) (x:Dd × Dk):(ddC ep x).length=13:=rfl
abbrev jt (ep g c:Nat) (E:List (Dd × Dk)):List Ent:=rwL 50 g (E.flatMap (ddC ep)) (mkz (c - E.length) dzC) E.length
abbrev mY (g c:Nat) (E:List (Dd × Dk)):Value:=agV g c E.length E.length
theorem acy {E:List (Dd × Dk)}:∀ e∈ddR E,e.k.map=false:=fun e he=>by
 obtain⟨x,_,hx⟩:=List.mem_flatMap.1 he;unfold ddL at hx;simp only[List.mem_cons,List.not_mem_nil,or_false] at hx
 rcases hx with rfl|rfl|rfl<;>rfl
theorem kX (E:List (Dd × Dk)) (x:Dd × Dk):ddR (E++[x])=ddR E++ddL x.1 x.2:=by
 unfold ddR;rw[List.flatMap_append];simp
abbrev aeJ (ep gB g1 P g2 gO cO:Nat) (E:List (Dd × Dk)):List Ent:=(⟨g2,55,[mY gO cO E]⟩::jt ep gO cO E)++(⟨gB,41,[pt P]⟩::⟨g1,41,[pt P]⟩::ddR E)
theorem ml {ep gB g1 P g2 gO cO:Nat} {v:Value} {E E' : List (Dd × Dk)}:∀ e∈(⟨g2,55,[v]⟩::jt ep gO cO E)++(⟨gB,41,[pt P]⟩::⟨g1,41,[pt P]⟩::ddR E' : List Ent),e.k.map=false:=fun e he=>by
 rcases List.mem_append.1 he with he|he
 ·rcases List.mem_cons.1 he with rfl|he
  ·rfl
  ·exact eo e he
 ·rcases List.mem_cons.1 he with rfl|he
  ·rfl
  ·rcases List.mem_cons.1 he with rfl|he
   ·rfl
   ·exact acy e he
theorem aaZ {ep:Nat} {w W:World} {g2 gO cO g m c:Nat} {F:List (Dd × Dk)} {R:List Ent} (h:Me w [] ((⟨g2,55,[mY gO cO F]⟩::jt ep gO cO F)++R) W) (hv:mY gO cO F=.slice (some ⟨g,0,none⟩) m c):g<W.heap.size:=by
 cases F with
 | nil=>cases hv
 | cons a F =>
  have:=(h.ok ⟨gO,50,_⟩ (List.mem_append_left _ (List.mem_cons_of_mem _ (List.mem_singleton.2 rfl)))).lt;cases hv;exact this
theorem abt {g c:Nat} {F:List (Dd × Dk)} (h:F.length≤c):∃ p c',mY g c F=.slice p F.length c'∧F.length≤c'∧Value.slice p F.length F.length=mY g F.length F:=by
 cases F with
 | nil=>exact⟨none,0,rfl,Nat.le_refl _,rfl⟩
 | cons a F=>exact⟨some ⟨g,0,none⟩,c,rfl,h,rfl⟩
theorem abR {W:World} {g t:Nat} {u v:Value} (ht:t≠0) (h1:(⟨g,t,[u]⟩ : Ent).ok W) (h2:(⟨g,t,[v]⟩ : Ent).ok W):u=v:=ok_one ht h1 h2
theorem Lle.left' : ∀ {N:List Ent},Lle N N
 | []=>trivial
 | _::_=>⟨_,_,.here,rfl,Lle.left'⟩
theorem Lle.mid {e1 e2:Ent}:∀ (A R:List Ent),Lle (A++R) (A++(e1::e2::R))
 | [],R=>Lle.skp (Lle.skp Lle.left')
 | _::A,R=>⟨_,_,.here,rfl,Lle.mid A R⟩
theorem aM (ep:Nat):∀ E:List (Dd × Dk),(E.flatMap (ddC ep)).length=E.length*13
 | []=>rfl
 | a::E=>by rw[List.flatMap_cons,List.length_append,aM ep E,aaJ,List.length_cons];omega
def AlP (ep:Nat) (X:List Dd):Value→List Ent→Prop:=fun v N=>∃ g c E,E.map Prod.fst=X∧v=mY g E.length E∧N=jt ep g c E++ddR E
structure abU (w:World) (x:Dd) (b:Dk):Prop where
 v:RdF zb (.slice (some ⟨b.v,0,none⟩) x.V.length x.V.length) x.V w
 y:RdF zb (.slice (some ⟨b.y,0,none⟩) x.Y.length x.Y.length) x.Y w
 p:RdF pfC (.slice (some ⟨b.p,0,none⟩) x.P.length x.P.length) x.P w
structure jq (x:Dd):Prop where
 v:x.V≠[]
 y:x.Y≠[]
 p:x.P≠[]
 vl:x.V.length≤100
 yl:x.Y.length≤100
 pl:x.P.length≤100
theorem abU.lt {w:World} {x:Dd} {b:Dk} (h:abU w x b) (hf:jq x):b.v<w.heap.size∧b.y<w.heap.size∧b.p<w.heap.size:=⟨RdF.lt (k:=3) (f:=zb) (fun _=>rfl) h.v hf.v,RdF.lt (k:=3) (f:=zb) (fun _=>rfl) h.y hf.y,RdF.lt (k:=7) (f:=pfC) (fun _=>rfl) h.p hf.p⟩
section
variable (p q g h:Nat) (f sec:Int) (ns:Value) (ep gM P:Nat) (lv:Nat→Value) (M:List (Value × Value))
theorem aaY {α:Type} (fi:α→Nat) (fh:α→List Nat) (fd:α→Dd × Dk) (hk:Nat→List α) (pk:Nat→Option Addr) (bk ck:Nat→Nat) (BS:List Nat) (hPB:P∈BS)
  (hlv:∀ k,k<8→lv k=.slice (pk k) (hk k).length (ck k)) (hn:∀ k,(hk k).length<1000000) (hX:(qe hk 8).length<10000000) (hb8:∀ x,∀ b∈fh x,b<256) (hb32:∀ x,(fh x).length=32)
  (hpa:∀ k,k<8→hk k≠[]→pk k=some ⟨bk k,0,none⟩∧bk k∈BS) (hfi:∀ k i x,k<8→(hk k)[i]?=some x→fi x=i)
  (hM:sF Tryz.prog 60 M) (hin:∀ x,(hsV (fh x),ddV ep (fd x).1 (fd x).2)∈M) (hfit:∀ x,jq (fd x).1) :
  Fn Tryz.prog 12 [pt P] (fun w=>Seg w P 0 (plC p q g h f sec ns ep gM lv)∧(∀ k i x,k<8→(hk k)[i]?=some x→Seg w (bk k) (0+i*32) (byC (fh x)))∧(∀ k∈BS,k<w.heap.size)∧(mpE gM M).ok w∧∀ x,abU w (fd x).1 (fd x).2)
   (AlP ep ((qe hk 8).map fun x=>(fd x).1)):=by
 have hT:=pZ p q g h f sec ns ep gM P lv;have hA:=acj P;have hb:∀ x,(byC (fh x)).length=32:=fun x=>by rw[zh];exact hb32 x
 intro w hw;obtain⟨w1,w2,w3,w5,w6⟩:=hw;refine uQ (n:=24) 3 Tryz.func12 rfl rfl rfl ?_
 repeat (first|refine Ta ?_|(refine Tm ?_;intro _)|refine WO.acallR (hc:=hT) (hR:=fun wx hm=>w1.mod hm.mod (by simp)) (k:=?_)|refine WO.acallX (hc:=hA) (hR:=fun _ _=>trivial) (k:=fun s _=>?_)|refine Tc ?_|exact Tz)
 rename_i g1 g2 hs0;clear hs0;generalize s 0=gB;refine WC.ndp' (fun hnd=>?_);refine WC.mine (fun hmn=>?_);simp only[List.map_append,List.map_cons,List.map_nil,List.cons_append,List.nil_append] at hnd hmn;refine WC.unf (fun a w4 d1 d2 d3 d4=>?_);have lB:=(d4.ok ⟨gB,_,_⟩ (Hs.mem Hs.a)).lt;have l1:=(d4.ok ⟨g1,_,_⟩ (Hs.mem Hs.a)).lt;have l2:=(d4.ok ⟨g2,_,_⟩ (Hs.mem Hs.a)).lt;have sB:=(d4.ok ⟨gB,_,_⟩ (Hs.mem Hs.a)).seg 0;simp only[List.drop_zero] at lB l1 l2 sB;have hn0:=d4.mod.size;have B2:w.heap.size≤g2:=(hmn ⟨g2,_,_⟩ (Hs.mem Hs.a)).resolve_right (by simp);have hne:gB≠g2∧g1≠g2:=by refine⟨?_,?_⟩<;>(intro e;simp[e] at hnd)
 clear hnd hmn;have hk4:zV BS w w4:=zV.of_mod d4.mod (fun k hk=>⟨w3 k hk,by simp⟩);have hks:∀ k∈gB::BS,k<w4.heap.size∧k≠g2:=by
  intro k hk
  rcases List.mem_cons.1 hk with rfl|hk
  ·exact⟨lB,hne.1⟩
  ·have:=w3 k hk;omega
 obtain⟨I,hI0⟩ : ∃ I:List α→World→Prop,∀ pre W,I pre W↔(∃ gO cO E,E.map Prod.fst=pre.map (fun x=>(fd x).1)∧(E.length≤cO∧cO<9223372036854775808)∧Me w [] (aeJ ep gB g1 P g2 gO cO E) W∧w4.heap.size≤W.heap.size):=⟨_,fun _ _=>Iff.rfl⟩;refine (wpIn_wide (n:=3)).1 ?_
 refine wpIn_rangeFunc_ownH (F:=Fence.wide) rfl (by omega) (gf:=70) (lb:=#[pt gB]) (d3.eval (x:=.tmp 9) rfl) trivial (enters_of Tryz.func70 (by kernel_rfl) rfl)
  (all_stops 2 fi fh hk pk bk ck (gB::BS) p q g h f sec ns ep gM P gB lv w4 (by simp) (by simp[hPB]) hlv hn hb sB (hk4.seg hPB w1) (fun k h1 h2=>⟨(hpa k h1 h2).1,by simp[(hpa k h1 h2).2]⟩) hfi (fun k i x h1 h2=>hk4.seg (hpa k h1 (by rintro e;rw[e] at h2;simp at h2)).2 (w2 k i x h1 h2)) (fun k hk=>(hks k hk).1))
  KpB.trans (KpB.put (fun k hk=>(hks k hk).1)) (Below.refl _ _) (fun _=>rfl)
  I (fun _ _ _=>False)
  (fun pre A B row hs hg hr=>by
   obtain⟨gO,cO,E,h0,h1,h2,h3⟩:=(hI0 _ _).1 hs;exact (hI0 _ _).2 ⟨gO,cO,E,h0,h1,h2.own hn0 hg hr (List.all_eq_true.2 fun e he=>by rw[ml e he];rfl),Nat.le_trans h3 hg.size⟩)
  (fun _ _ _ _ _ hs _ _=>hs)
  ((hI0 _ _).2 ⟨0,0,[],rfl,⟨by simp,by decide⟩,Lle.me (L':=[⟨g2,55,[.slice none 0 0]⟩,⟨gB,41,[pt P]⟩,⟨g1,41,[pt P]⟩]) (by repeat (first|exact Lle.nil|refine Lle.c ?_)) d4,Nat.le_refl _⟩)
  (fun x a' W=>a'.defers=[]∧a'.tmps.size=24∧∃ q4,Kn [(4,pt q4),(1,pt g1),(2,pt g2)] a'∧(⟨q4,60,byC (fh x)⟩ : Ent).ok W∧w4.heap.size≤q4∧∃ v,(⟨g2,55,[v]⟩ : Ent).ok W∧∀ g m c,v=.slice (some ⟨g,0,none⟩) m c→q4≠g)
  (fun x a' _ A B row ⟨e1,e2,q4,e3,e4,e5,v,e6,e7⟩ hg hr=>⟨e1,e2,q4,e3,e4.own hg hr,e5,v,e6.own hg hr,e7⟩)
  ?assign ?body ?done ?stop
 case assign =>
  intro lr pre x W K hI hK;have hbx:=hb x;have hQ:¬ LetsOut (Exit.then K (fun _ _ _=>False)):=fun ⟨_,_,h⟩=>h;have hkn:Kn ([(10,.int .i64 (fi x:Int)),(11,hsV (fh x))]++[(1,pt g1),(2,pt g2)]) { tmps:=((#[10,11]:Array Tmp).zip #[.int .i64 (fi x:Int),hsV (fh x)]).foldl (fun t (p,v)=>t.setIfInBounds p v) a.tmps,defers:=[] }:=by
   have k00:Kn [(1,pt g1),(2,pt g2)] a:=Kle.kn d3 (by repeat (first|exact Kle.nil|refine Kle.cons rfl rfl ?_));have k0:Kn [(1,pt g1),(2,pt g2)] ({ a with defers:=[] }:Act):=k00;have k1:=k0.put (d:=10) (by show 10<a.tmps.size;omega) (.int .i64 (fi x:Int));have k2:=k1.put (d:=11) (by rw[zR];show 11<a.tmps.size;omega) (hsV (fh x));have k3:Kn ([(10,.int .i64 (fi x:Int)),(11,hsV (fh x))]++[(1,pt g1),(2,pt g2)]) _:=Kle.kn k2 (by repeat (first|exact Kle.nil|refine Kle.cons rfl rfl ?_));intro t v ht;have k4:=k3 t v ht;simpa [Act.put,Array.zip] using k4
  suffices HH:WI (some lr) 1 Tryz.prog W [] 24 _ (Exit.then K (fun _ _ _=>False)) ([(10,.int .i64 (fi x:Int)),(11,hsV (fh x))]++[(1,pt g1),(2,pt g2)]) [] from HH _ W rfl (by simp[d2]) hkn (Me.refl W [])
  repeat (first|refine WO.stores (zB (vs:=byC (fh x)) (cs':=byC (fh x)) (hl:=hbx) (h1:=yr _) (hc:=yu (by rw[hbx];rfl)) (hle:=by rw[hbx];rfl)) ?_|refine WO.nil ?_|refine WO.skip ?_|refine WX.seqI ?_|refine WI.seq ?_|refine WI.region ?_ (by exact hQ)|refine WO.autoS (k:=?_)|(refine WO.autoM (k:=?_);intro _)|refine WO.auto (k:=?_)|refine WO.does yq ?_|refine WO.does vw ?_|refine WI.ret ?_|refine WI.skip ?_|refine WX.then_ret ?_|refine WX.noPanic ?_|refine WX.blk_normal ?_|refine WX.blk_ret ?_|refine WX.then_exit ?_|refine WX.blk_exit ?_|refine WX.blk_pass rfl ?_|refine WI.exit ?_|refine WI.block ?_|refine WX.scp_normal ?_|refine WX.scp_ret ?_|refine WX.scp_exit ?_|refine WI.condT rfl ?_|refine WI.condF rfl ?_)
  rename_i q4;intro a2 W2 e1 e2 e3 e4;have o4:=e4.ok ⟨q4,_,_⟩ (Hs.mem Hs.a);have m4:=(e4.mine ⟨q4,_,_⟩ (Hs.mem Hs.a)).resolve_right (by simp);obtain⟨gO,cO,E,h0,h1,h2,h3⟩:=(hI0 _ _).1 hI
  refine hK a2 W2 ⟨e4.mod.size,fun k o _ hk _=>(e4.mod.block k (Array.getElem?_eq_some_iff.1 hk).1 (by simp)).trans hk⟩ ⟨zV.of_mod e4.mod (fun k hk=>⟨Nat.lt_of_lt_of_le (hks k hk).1 h3,by simp⟩),e4.mod.size⟩ ((hI0 _ _).2 ⟨gO,cO,E,h0,h1,h2.below e4.mod.below,Nat.le_trans h3 e4.mod.size⟩)
   ⟨e1,e2,q4,Kle.kn e3 (by repeat (first|exact Kle.nil|refine Kle.cons rfl rfl ?_)),o4,Nat.le_trans h3 m4,_,(h2.below e4.mod.below).ok _ (List.mem_append_left _ (List.mem_cons_self ..)),fun g m c hv=>by
    have h5:=aaZ h2 hv;have h6:W.heap.size≤q4:=m4;omega⟩
 case body =>
  rintro lr pre x a' W hl _ hIa ⟨e1,e2,q4,e3,o4,hq4,v4,ov4,hv4⟩ hlen;obtain⟨gO,cO,E,hE0,⟨hc1,hc2⟩,hI,hIs⟩:=(hI0 _ _).1 hIa;have hbx:=hb x;have hkx:=sR (fh x) (hb8 x) (hb32 x);have hEl:E.length=pre.length:=by have:=congrArg List.length hE0;simpa using this
  have hF13:=aM ep E;have s4:=o4.seg 0;have s1:=(hI.ok ⟨g1,41,[pt P]⟩ (List.mem_append_right _ (List.mem_cons_of_mem _ (List.mem_cons_self ..)))).seg 0;simp only[List.drop_zero] at s4 s1;have hQ:¬ LetsOut (ownPostG w4.heap.size (KpB (gB::BS)) I (fun _ _ _=>False) (pre++[x]) W):=fun ⟨_,_,h⟩=>h;have hkK:∀ {gs:List Nat} {W2:World},Mod gs W W2→(∀ k∈gB::BS,k ∉ gs)→KpB (gB::BS) W W2:=fun hm hg=>⟨zV.of_mod hm (fun k hk=>⟨Nat.lt_of_lt_of_le (hks k hk).1 hIs,hg k hk⟩),hm.size⟩;have hPW:Seg W P 0 (plC p q g h f sec ns ep gM lv):=w1.mod hI.mod (by simp);have hMW:(mpE gM M).ok W:=w5.keep (hI.mod.block gM w5.lt (by simp));have hMl:gM<w.heap.size:=w5.lt;have hPl:=w3 P hPB;obtain⟨lv1,lv2,lv3⟩:=(w6 x).lt (hfit x);have r1:=(w6 x).v.mod hI.mod;have r2:=(w6 x).y.mod hI.mod;have r3:=(w6 x).p.mod hI.mod;have hinx:=hin x;have hft:=hfit x;generalize hfd:fd x=dx at *;obtain⟨X,B⟩:=dx;dsimp only at lv1 lv2 lv3 r1 r2 r3 hinx hft;have hW:=aW ep X.d X.c X.s (some ⟨B.v,0,none⟩) (some ⟨B.y,0,none⟩) (some ⟨B.p,0,none⟩) X.V.length X.Y.length X.P.length X.V X.Y X.P (List.length_pos_iff.2 hft.v) (List.length_pos_iff.2 hft.y) (List.length_pos_iff.2 hft.p) (by have:=hft.vl;omega) (by have:=hft.yl;omega) (by have:=hft.pl;omega);unfold ddV at hinx;have hfin:∀ (g1' c1:Nat) (b:Dk) (a2:Act) (W2:World),E.length+1≤c1→c1<9223372036854775808→Me W ((⟨g2,55,[mY gO cO E]⟩::jt ep gO cO E).map Ent.g) ((⟨g2,55,[mY g1' c1 (E++[(X,b)])]⟩::jt ep g1' c1 (E++[(X,b)]))++ddL X b) W2→ownPostG w4.heap.size (KpB (gB::BS)) I (fun _ _ _=>False) (pre++[x]) W .normal a2 W2:=by
   intro g1' c1 b a2 W2 t1 t2 f4;have hnd:=hI.nodup;rw[List.map_append,List.nodup_append] at hnd;refine⟨⟨f4.mod.size,fun k o hk0 hk hc=>(f4.mod.block k (Array.getElem?_eq_some_iff.1 hk).1 (fun hx=>?_)).trans hk⟩,hkK f4.mod (fun k hk hx=>?_),(hI0 _ _).2 ⟨g1',c1,E++[(X,b)],?_⟩⟩
   ·obtain⟨e,he,rfl⟩:=List.mem_map.1 hx;exact (hI.ok e (List.mem_append_left _ he)).far (ml (gB:=gB) (g1:=g1) (P:=P) (E':=E) e (List.mem_append_left _ he)) hk hc
   ·rcases List.mem_cons.1 hk with rfl|hk
    ·exact hnd.2.2 _ hx _ (by simp) rfl
    ·have:=w3 k hk;obtain⟨e,he,rfl⟩:=List.mem_map.1 hx;have:=(hI.mine e (List.mem_append_left _ he)).resolve_right (by simp);omega
   ·refine⟨by rw[List.map_append,List.map_append,hE0];simp[hfd],⟨by rw[List.length_append];exact t1,t2⟩,?_,Nat.le_trans hIs f4.mod.size⟩;have h9:=Me.callL hI f4;rw[List.append_assoc] at h9;refine h9.perm ?_;show List.Perm _ ((⟨g2,55,[mY g1' c1 (E++[(X,b)])]⟩::jt ep g1' c1 (E++[(X,b)]))++(⟨gB,41,[pt P]⟩::⟨g1,41,[pt P]⟩::ddR (E++[(X,b)])));rw[kX];exact List.Perm.append_left _ List.perm_append_comm
  rcases Nat.eq_zero_or_pos E.length with hF0|hpos
  ·obtain rfl:=List.length_eq_zero_iff.1 hF0;have i2:=hI.ok ⟨g2,55,[.slice none 0 0]⟩ (List.mem_append_left _ (List.mem_cons_self ..));have b4:q4 ∉ [g2]:=by simp;omega
   have b1:g1 ∉ [g2]:=by simpa using hne.2
   have bP:P ∉ [g2]:=by simp;omega
   have bM:gM ∉ [g2]:=by simp;omega
   have bV:∀ a:Addr,some (⟨B.v,0,none⟩ : Addr)=some a→a.block ∉ [g2]:=fun a e=>by cases e;simp;omega
   have bY:∀ a:Addr,some (⟨B.y,0,none⟩ : Addr)=some a→a.block ∉ [g2]:=fun a e=>by cases e;simp;omega
   have bR:∀ a:Addr,some (⟨B.p,0,none⟩ : Addr)=some a→a.block ∉ [g2]:=fun a e=>by cases e;simp;omega
   have hm0:Me W [g2] [⟨g2,55,[.slice none 0 0]⟩] W:=⟨.refl _ _,by simpa using i2,by simp,by simp⟩
   suffices HH:WI (some lr) 1 Tryz.prog W [g2] 24 _ (ownPostG w4.heap.size (KpB (gB::BS)) I (fun _ _ _=>False) (pre++[x]) W) [(4,pt q4),(1,pt g1),(2,pt g2)] [⟨g2,55,[.slice none 0 0]⟩] from HH a' W e1 e2 e3 hm0
   refine WI.block ?_;refine WI.headQ 9 (by exact hQ) ?_;refine Dc ?_;refine DQ.does (fun s _=>zm s1 (i:=0) rfl b1 rfl) Dp.const ?_;refine Dc ?_;refine Dc ?_;refine DQ.does (fun s _=>zj (hs:=hPW) (hb:=bP) (hc:=rfl)) Dp.const ?_;refine DQ.does (fun s _=>zn (vs:=byC (fh x)) (hs:=s4) (hb:=b4) (hle:=Nat.le_refl _) (hc:=by rw[Nat.sub_self];exact zK hbx) (hl:=hbx)) Dp.const ?_;refine DQ.does (fun s _=>qL tM rfl rfl (ec hMW bM) hM hkx hinx) Dp.const ?_;refine DQ.acallX (hc:=hW) (hR:=fun wx hm=>⟨r1.modH hm.mod bV,r2.modH hm.mod bY,r3.modH hm.mod bR⟩) (k:=?_);refine DQ.makes (vf:=fun _ g=>.slice (some ⟨g,0,none⟩) 1 1) (t:=50) (cs:=fun s=>ddC ep (X,⟨s 7 0,s 7 1,s 7 2,s 7 3,s 7 4,s 7 5⟩)) (fun s _=>ze rfl (by decide) rfl) Dp.const (by intro s s' h;dsimp only;rw[h 7 (by decide +kernel)]) ?_;refine DQ.anil (k:=?_);intro sx _
   try simp only[List.map_cons,List.map_nil,List.cons_append,List.nil_append]
   generalize sx 7 0=hV;generalize sx 7 1=hY;generalize sx 7 2=hP;generalize sx 7 3=kV;generalize sx 7 4=kY;generalize sx 7 5=kP;generalize sx 8 0=gT;refine WO.nil (WX.headR ?_ (by exact hQ));refine VR.step (S:=[true,true,true,true,true,true,true,true,true,false,false]) (f:=1) [9] ?_;refine ux.cons (fun hQ1 hd1=>?_) ux.nil;refine WO.appNZ (z:=dzC) (ys:=ddC ep (X,⟨hV,hY,hP,kV,kY,kP⟩)) (m:=1) rfl rfl rfl (Rds.own (m:=13) Hs.a rfl) rfl (by decide) (by decide) (by decide) (by decide) (fun g1' c1 a2 a3=>?_);refine WO.nil (WX.vr (S':=[true,true,true,true,true,true,true,true,true,true,false]) ?_ hQ1 hd1);refine VR.step (S:=[true,true,true,true,true,true,true,true,true,true,false]) (f:=0) [10] ?_;refine ux.cons (fun hQ1 hd1=>?_) ux.nil;refine Ta ?_;refine WO.nil (WX.vr (S':=List.replicate 11 true) ?_ hQ1 hd1);refine VR.done ?_;refine WX.blk_normal ?_;intro a2' W2 f1 f2 f3 f4;exact hfin g1' c1 ⟨hV,hY,hP,kV,kY,kP⟩ a2' W2 a3 a2 (Lle.me (by simp only[List.nil_append,List.length_singleton,mY,jt,agV,rwL,List.flatMap_cons,List.flatMap_nil,List.append_nil,List.cons_append,ddL];(repeat (first|exact Lle.nil|refine Lle.c ?_))) f4)
  ·have i2:=hI.ok ⟨g2,55,[mY gO cO E]⟩ (List.mem_append_left _ (List.mem_cons_self ..));have hsl:mY gO cO E=.slice (some ⟨gO,0,none⟩) E.length cO:=ut hpos;have hrl:jt ep gO cO E=[⟨gO,50,E.flatMap (ddC ep)++mkz (cO - E.length) dzC⟩]:=uf hpos;have hvv:=abR (by decide) ov4 i2;have b4:q4 ∉ [g2,gO]:=by
    have:=hv4 gO E.length cO (hvv.trans hsl);simp;omega
   rw[hsl] at i2;have iO:=hI.ok ⟨gO,50,E.flatMap (ddC ep)++mkz (cO - E.length) dzC⟩ (List.mem_append_left _ (List.mem_cons_of_mem _ (by rw[hrl];exact List.mem_singleton.2 rfl)));have mO:=(hI.mine ⟨gO,50,E.flatMap (ddC ep)++mkz (cO - E.length) dzC⟩ (List.mem_append_left _ (List.mem_cons_of_mem _ (by rw[hrl];exact List.mem_singleton.2 rfl)))).resolve_right (by simp);have mO' : w.heap.size≤gO:=mO;have hg2O:g2≠gO∧gO≠g1:=by
    have hnd:=hI.nodup;unfold aeJ at hnd;rw[hrl] at hnd;refine⟨?_,?_⟩<;>(intro e;simp[e] at hnd)
   have b1:g1 ∉ [g2,gO]:=by simp;exact⟨hne.2,fun e=>hg2O.2 e.symm⟩
   have bP:P ∉ [g2,gO]:=by simp;omega
   have bM:gM ∉ [g2,gO]:=by simp;omega
   have bV:∀ a:Addr,some (⟨B.v,0,none⟩ : Addr)=some a→a.block ∉ [g2,gO]:=fun a e=>by cases e;simp;omega
   have bY:∀ a:Addr,some (⟨B.y,0,none⟩ : Addr)=some a→a.block ∉ [g2,gO]:=fun a e=>by cases e;simp;omega
   have bR:∀ a:Addr,some (⟨B.p,0,none⟩ : Addr)=some a→a.block ∉ [g2,gO]:=fun a e=>by cases e;simp;omega
   have hm0:Me W [g2,gO] [⟨g2,55,[.slice (some ⟨gO,0,none⟩) E.length cO]⟩,⟨gO,50,E.flatMap (ddC ep)++mkz (cO - E.length) dzC⟩] W:=⟨.refl _ _,fun e he=>(List.mem_cons.1 he).elim (fun h=>h ▸ i2) (fun he=>(List.mem_singleton.1 he) ▸ iO),by simp,by simpa using hg2O.1⟩;have hfin' : ∀ (g1' c1:Nat) (b:Dk) (a2:Act) (W2:World),E.length+1≤c1→c1<9223372036854775808→Me W [g2,gO] ([⟨g2,55,[.slice (some ⟨g1',0,none⟩) (E.length+1) c1]⟩,⟨g1',50,(E.flatMap (ddC ep)++ddC ep (X,b))++mkz (c1 - (E.length+1)) dzC⟩]++ddL X b) W2→ownPostG w4.heap.size (KpB (gB::BS)) I (fun _ _ _=>False) (pre++[x]) W .normal a2 W2:=by
    intro g1' c1 b a2 W2 t1 t2 f4;have hfl:(E++[(X,b)]).length=E.length+1:=by simp
    refine hfin g1' c1 b a2 W2 t1 t2 ?_;show Me W (g2::(jt ep gO cO E).map Ent.g) ((⟨g2,55,[agV g1' c1 (E++[(X,b)]).length (E++[(X,b)]).length]⟩::rwL 50 g1' ((E++[(X,b)]).flatMap (ddC ep)) (mkz (c1 - (E++[(X,b)]).length) dzC) (E++[(X,b)]).length)++ddL X b) W2;rw[ut (by omega),uf (by omega),hfl,List.flatMap_append,hrl];simpa using f4
   suffices HH:WI (some lr) 1 Tryz.prog W [g2,gO] 24 _ (ownPostG w4.heap.size (KpB (gB::BS)) I (fun _ _ _=>False) (pre++[x]) W) [(4,pt q4),(1,pt g1),(2,pt g2)] [⟨g2,55,[.slice (some ⟨gO,0,none⟩) E.length cO]⟩,⟨gO,50,E.flatMap (ddC ep)++mkz (cO - E.length) dzC⟩] from HH a' W e1 e2 e3 hm0
   refine WI.block ?_;refine WI.headQ 9 (by exact hQ) ?_;refine Dc ?_;refine DQ.does (fun s _=>zm s1 (i:=0) rfl b1 rfl) Dp.const ?_;refine Dc ?_;refine Dc ?_;refine DQ.does (fun s _=>zj (hs:=hPW) (hb:=bP) (hc:=rfl)) Dp.const ?_;refine DQ.does (fun s _=>zn (vs:=byC (fh x)) (hs:=s4) (hb:=b4) (hle:=Nat.le_refl _) (hc:=by rw[Nat.sub_self];exact zK hbx) (hl:=hbx)) Dp.const ?_;refine DQ.does (fun s _=>qL tM rfl rfl (ec hMW bM) hM hkx hinx) Dp.const ?_;refine DQ.acallX (hc:=hW) (hR:=fun wx hm=>⟨r1.modH hm.mod bV,r2.modH hm.mod bY,r3.modH hm.mod bR⟩) (k:=?_);refine DQ.makes (vf:=fun _ g=>.slice (some ⟨g,0,none⟩) 1 1) (t:=50) (cs:=fun s=>ddC ep (X,⟨s 7 0,s 7 1,s 7 2,s 7 3,s 7 4,s 7 5⟩)) (fun s _=>ze rfl (by decide) rfl) Dp.const (by intro s s' h;dsimp only;rw[h 7 (by decide +kernel)]) ?_;refine DQ.anil (k:=?_);intro sx _
   try simp only[List.map_cons,List.map_nil,List.cons_append,List.nil_append]
   generalize sx 7 0=hV;generalize sx 7 1=hY;generalize sx 7 2=hP;generalize sx 7 3=kV;generalize sx 7 4=kY;generalize sx 7 5=kP;generalize sx 8 0=gT;refine WO.nil (WX.headR ?_ (by exact hQ));refine VR.step (S:=[true,true,true,true,true,true,true,true,true,false,false]) (f:=1) [9] ?_;refine ux.cons (fun hQ1 hd1=>?_) ux.nil;refine WO.appKZ (z:=dzC) (m:=1) (l:=E.length+1) rfl rfl rfl (xs:=E.flatMap (ddC ep)) (ys:=ddC ep (X,⟨hV,hY,hP,kV,kY,kP⟩)) hF13 hc1 Pk.a (Rds.own (m:=13) Hs.a rfl) rfl rfl rfl (by omega) hc2 (by omega) (by decide) (by decide) (fun g1' c1 a2 a3=>?_);refine WO.nil (WX.vr (S':=[true,true,true,true,true,true,true,true,true,true,false]) ?_ hQ1 hd1);refine VR.step (S:=[true,true,true,true,true,true,true,true,true,true,false]) (f:=0) [10] ?_;refine ux.cons (fun hQ1 hd1=>?_) ux.nil;refine Ta ?_;refine WO.nil (WX.vr (S':=List.replicate 11 true) ?_ hQ1 hd1);refine VR.done ?_;refine WX.blk_normal ?_;intro a2' W2 f1 f2 f3 f4;exact hfin' g1' c1 ⟨hV,hY,hP,kV,kY,kP⟩ a2' W2 a3 a2 (Lle.me (by simp only[List.cons_append,List.nil_append,ddL];(repeat (first|exact Lle.nil|refine Lle.c ?_))) f4)
 case done =>
  rintro D ys W hD rfl hIa hK;obtain⟨gO,cO,E,hE0,⟨hc1,hc2⟩,hI,hIs⟩:=(hI0 _ _).1 hIa;have hlD:D<W.heap.size:=(Array.getElem?_eq_some_iff.1 hK).1;have i2:=hI.ok ⟨g2,55,[mY gO cO E]⟩ (List.mem_append_left _ (List.mem_cons_self ..));have hm0:Me W [g2] [⟨g2,55,[mY gO cO E]⟩] W:=⟨.refl _ _,by simpa using i2,by simp,by simp⟩;have hD2:D≠g2:=fun e=>by
   rw[e] at hK;exact i2.far rfl hK rfl
  obtain⟨pO,c',r1,r2,r3⟩:=abt (g:=gO) hc1;have hI' : Me w [] ([⟨g2,55,[mY gO cO E]⟩]++(jt ep gO cO E++(⟨gB,41,[pt P]⟩::⟨g1,41,[pt P]⟩::ddR E))) W:=hI;rw[r1] at hm0 hI';have hfin:∀ {v:Value} {W3:World},Me W [g2] [⟨g2,55,[v]⟩] W3→Me w [] (⟨g2,55,[v]⟩::(jt ep gO cO E++(⟨gB,41,[pt P]⟩::⟨g1,41,[pt P]⟩::ddR E))) W3∧W3.heap[D]?=some (.deferred (some [])):=fun f4=>⟨Me.callL (M:=[⟨g2,55,[.slice pO E.length c']⟩]) hI' f4,(f4.mod.block D hlD (by simpa using hD2)).trans hK⟩;have hDw:w.heap.size≤D:=Nat.le_trans hn0 hD;have hC:=abq (c:=c') pO E.length r2;refine WO.tail (w0:=W) (gs:=[g2]) (n:=24) (K:=[(2,pt g2)]) (L:=[⟨g2,55,[.slice pO E.length c']⟩]) (ds:=[{ target:=.collected D,args:=#[] }]) (by rw[d1]) d2 (Kle.kn d3 (by repeat (first|exact Kle.nil|refine Kle.cons rfl rfl ?_))) hm0 ?_;refine WO.auto (k:=?_);refine WO.acallR (hc:=hC) (hR:=fun wx hm=>trivial) (k:=?_);refine Ta ?_;refine WO.nil ?_;intro a3 W3 t1 t2 t3 t4;rw[r3] at t4;obtain⟨m1,m2⟩:=hfin t4;refine wp_ret ?_;refine ic (D:=D) (w:=w) (a:=a3) (N:=jt ep gO cO E++ddR E) (by simp[dfA,t1]) t3 m1 hDw m2 (fun e he=>ml (ep:=ep) (gB:=gB) (g1:=g1) (P:=P) (gO:=gO) (cO:=cO) (E:=E) (E':=E) e he) (ad1 rfl (tK rfl Hs.here rfl)) (Lle.skp (Lle.mid _ _)) ⟨gO,cO,E,hE0,rfl,rfl⟩
 case stop =>
  rintro D c pre W _ _ h _;exact h.elim
end
end Sx
end
end Go.Proofs.YteibfbjpkjkejaaGreatDoor
