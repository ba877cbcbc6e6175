/- Part 34 of the proof. -/
import Derived.Test.YteibfbjpkjkejaaGreatDoorS31
import Derived.Test.YteibfbjpkjkejaaGreatDoorS27
set_option linter.unusedSimpArgs false
set_option linter.unusedVariables false
set_option maxHeartbeats 8000000
namespace Go.Proofs.YteibfbjpkjkejaaGreatDoor
section
open Go Go.RowKit Go.BigFrame
namespace Sx
attribute [local irreducible] DQ DQS WC WO
theorem jV (pa:Option Addr) (la ca:Nat):Fn Tryz.prog 122 [.slice pa la ca] Tr (Ex (fun s=>.func (.func 154) #[] #[pt (s 0)]) (fun s=>[⟨s 0,45,[.slice pa la ca]⟩]) (fun _=>True)):=by
 refine Fn.enter Tryz.func122 rfl rfl rfl ?_;intro w hw
 repeat (first|refine Ta ?_|(refine Tm ?_;intro _)|refine WO.does (zW rfl rfl) ?_|refine Tc ?_|exact Tz)
 rename_i g1;exact WX.ret1 rfl (zt rfl) [⟨g1,45,[.slice pa la ca]⟩] (Lle.cons Pk.here rfl Lle.nil) ⟨fun _=>g1,rfl,rfl,trivial⟩
theorem aaW (m:Nat) {α:Type} (fi fa:α→Nat) (xs:List α) (pa:Option Addr) (gA bA oA cA l:Nat) (J Jx:List α→World→Prop) (hn:xs.length≤1099511627776) (hJo:∀ s A B,J s A→Mod [] A B→J s B) (hJxo:∀ s A B,Jx s A→Mod [] A B→Jx s B)
  (hY:∀ pre x W,J pre W→pre.length<xs.length→YieldAt (fw none) (m - 1) Tryz.prog l #[.int .i64 (fi x:Int),zj (fa x)] W fun e W'=>(e=.returned (.bool true)∧J (pre++[x]) W'∧zT [gA,bA] W W'∧W.heap.size≤W'.heap.size)∨(e=.returned (.bool false)∧Jx (pre++[x]) W'))
  (W:World) (hA:Seg W gA 0 [.slice pa xs.length cA]) (hpa:xs≠[]→pa=some ⟨bA,oA,none⟩) (hfi:∀ k x,xs[k]?=some x→fi x=xs.length - 1 - k) (hSA:∀ k x,xs[k]?=some x→Seg W bA (oA+(xs.length - 1 - k)*4) (zc (fa x))) (hlt:∀ k∈[gA,bA],k<W.heap.size) (h0:J [] W) :
  CallsIn (fw none) m Tryz.prog 154 [.func (.yield l) #[] #[],pt gA].toArray W fun e W'=>(∃ v,e=.returned v)∧((∃ ys,ys=xs∧J ys W')∨(∃ pre,True∧Jx pre W')):=by
 refine vo (n:=19) Tryz.func154 rfl rfl rfl ?_;have hQ:¬ LetsOut (bodyPost Tryz.prog Tryz.f154 fun e W'=>(∃ v,e=.returned v)∧((∃ ys,ys=xs∧J ys W')∨(∃ pre,True∧Jx pre W'))):=by
  rintro ⟨a,w,⟨v,h⟩,_⟩;cases h
 have e0:IntKind.i64.wrap ((xs.length:Int) - 1)=(xs.length:Int) - 1 - ((0:Nat):Int):=zr (by omega) (by omega) (by omega);refine WI.seq (WI.region ?_ (by exact hQ));refine WO.does (zi (hs:=hA)) ?_;refine WO.auto (k:=?_);refine WO.does (zH rfl rfl e0) ?_;refine WO.auto (k:=?_);refine WO.nil (WX.seqI ?_);refine WI.block ?_;refine WI.loopW (σ:=Nat) (fun k=>[(0,.func (.yield l) #[] #[]),(1,pt gA),(3,.int .i64 ((xs.length:Int) - 1 - (k:Int)))]) (fun k w=>k≤xs.length∧J (xs.take k) w∧zT [gA,bA] W w∧W.heap.size≤w.heap.size) (fun k=>xs.length - k) 0 (fun w hw=>⟨Nat.zero_le _,?_,?_,hw.mod.size⟩) ?_ ?_
 ·have:=hJo [] W w h0 hw.mod;simpa using this
 ·exact zT.of_mod hw.mod (fun k hk=>⟨hlt k hk,by simp⟩)
 ·repeat (first|exact Kle.nil|refine Kle.cons rfl rfl ?_)
 ·rintro k w1 ⟨hk,hJ,hKp,hsz⟩;have hlw:∀ j∈[gA,bA],j<w1.heap.size:=fun j hj=>Nat.lt_of_lt_of_le (hlt j hj) hsz;have hA':=hKp.seg (b:=gA) (by simp) hA;refine WI.seq (WI.seq (WI.region ?_ (by exact hQ)));refine WO.auto (k:=?_)
  by_cases hkl:k<xs.length
  ·rw[show (xs.length:Int) - 1 - (k:Int)=((xs.length - 1 - k:Nat):Int) by omega];refine WO.does (tU rfl rfl (by omega)) ?_;refine WO.nil (WX.seqI ?_);refine WI.condT rfl ?_;refine WI.skip (WX.seqI ?_);obtain⟨x,hx⟩ : ∃ x,xs[k]?=some x:=⟨_,List.getElem?_eq_getElem hkl⟩;have hSA':=hKp.seg (b:=bA) (by simp) (hSA k x hx);have hfx:=hfi k x hx;have hx' : xs.take k++[x]=xs.take (k+1):=by rw[List.take_add_one,hx];rfl
   have hix:xs.length - 1 - k<xs.length:=by omega
   obtain rfl:=hpa (by rintro rfl;simp at hkl);generalize hj:xs.length - 1 - k=j at *;have e1:IntKind.i64.wrap ((j:Int) - 1)=(xs.length:Int) - 1 - ((k+1:Nat):Int):=zr (by omega) (by omega) (by omega);refine WI.seq ?_;refine WI.block ?_;refine WI.seq (WI.regionY 6 (by exact hQ) ?_);simp only[List.take_succ_cons,List.take_zero,List.drop_succ_cons,List.drop_zero];refine WO.does (yV rfl) ?_;refine WO.does (yV rfl) ?_;refine WO.does (zi (hs:=hA')) ?_;refine WO.does (yV rfl) ?_;refine WO.does (zb (o':=oA+j*4) rfl rfl hix rfl) ?_;refine WO.does (zn (vs:=zc (fa x)) (hs:=hSA')) ?_;refine WO.nil (WX.woi ?_);refine WOI.yield (vs:=[.int .i64 (j:Int),zj (fa x)]) rfl rfl (fun w2 h2=>hfx ▸ hY (xs.take k) x w2 (hJo _ _ _ hJ h2.mod) (by rw[List.length_take];omega)) (fun w2 e w3 h2 hR=>?_);have hKw:zT [gA,bA] W w2:=hKp.trans (zT.of_mod h2.mod (fun j hj=>⟨hlw j hj,by simp⟩));have hs2:=Nat.le_trans hsz h2.mod.size
   rcases hR with ⟨rfl,hR,hK3,hs3⟩|⟨rfl,hR⟩
   ·refine⟨true,rfl,?_⟩;rw[hx'] at hR;refine WOI.of (by exact hQ) ?_;refine WO.auto (k:=?_);refine WO.nil (WX.seqI ?_);refine WI.condF rfl ?_;refine WI.skip (WX.blk_normal (WX.seqI ?_));refine WI.region ?_ (by exact hQ);refine WO.auto (k:=?_);refine WO.does (zH rfl rfl e1) ?_;refine WO.auto (k:=?_);refine WO.nil ?_;refine WX.metW (k+1) (by omega) (by repeat (first|exact Kle.nil|refine Kle.cons rfl rfl ?_)) (fun w4 h4=>⟨by omega,hJo _ _ _ hR h4.mod,?_,Nat.le_trans hs2 (Nat.le_trans hs3 h4.mod.size)⟩);exact (hKw.trans hK3).trans (zT.of_mod h4.mod (fun j hj=>⟨Nat.lt_of_lt_of_le (hlt j hj) (Nat.le_trans hs2 hs3),by simp⟩))
   ·refine⟨false,rfl,?_⟩;rw[hx'] at hR;refine WOI.of (by exact hQ) ?_;refine WO.auto (k:=?_);refine WO.nil (WX.seqI ?_);refine WI.condT rfl ?_;refine WI.ret ?_;refine WX.blk_ret (WX.then_ret (WX.then_ret (WX.blk_ret ?_)));intro a w4 g1 g2 g3 g4;exact bodyPost_ret (results_none rfl _ _ _) g1 ⟨⟨_,rfl⟩,.inr ⟨_,trivial,hJxo _ _ _ hR g4.mod⟩⟩
  ·refine WO.does (yG rfl rfl (by omega)) ?_;refine WO.nil (WX.seqI ?_);refine WI.condF rfl ?_;refine WI.exit (WX.then_exit (WX.then_exit (WX.blk_exit ?_)));intro a w4 g1 g2 g3 g4;obtain rfl:k=xs.length:=by omega
   refine bodyPost_end (results_none rfl _ _ _) g1 ⟨⟨_,rfl⟩,.inl ⟨xs,rfl,?_⟩⟩;have:=hJo _ _ _ hJ g4.mod;rwa [List.take_length] at this
abbrev CoT (q:Nat):Type:={ x:Nat × Nat // x.2<q }
def r7 {q:Nat} (l:List Nat) (h:∀ c∈l,c<q):Nat→List (CoT q)
 | 0=>[]
 | j+1=>if hj:j<l.length then ⟨(j,l[j]),h _ (List.getElem_mem hj)⟩::r7 l h j else []
theorem nE {q:Nat} {l:List Nat} (h:∀ c∈l,c<q):∀ j,j≤l.length→(r7 l h j).length=j
 | 0,_=>rfl
 | j+1,hj=>by rw[r7,dif_pos (by omega),List.length_cons,nE h j (by omega)]
theorem mN {q:Nat} {l:List Nat} (h:∀ c∈l,c<q):∀ j,j≤l.length→∀ k x,(r7 l h j)[k]?=some x→x.1.1=j - 1 - k∧l[j - 1 - k]?=some x.1.2
 | 0,_,k,x,hx=>by simp[r7] at hx
 | j+1,hj,k,x,hx=>by
  rw[r7,dif_pos (by omega)] at hx;cases k with
  | zero =>
   simp at hx;rw[← hx];simp
  | succ k =>
   have:=mN h j (by omega) k x (by simpa using hx);rw[show j+1 - 1 - (k+1)=j - 1 - k by omega];exact this
theorem pG {q:Nat} {l:List Nat} (h:∀ c∈l,c<q) (st:Nat→Nat→Nat):∀ j,j≤l.length→∀ r,(r7 l h j).foldl (fun r (x:CoT q)=>st r x.1.2) r=(l.take j).reverse.foldl st r
 | 0,_,r=>by simp[r7]
 | j+1,hj,r=>by
  have e:l.take (j+1)=l.take j++[l[j]'(by omega)]:=by rw[List.take_add_one,List.getElem?_eq_getElem (show j<l.length by omega)];rfl
  rw[r7,dif_pos (by omega),List.foldl_cons,pG h st j (by omega),e,List.reverse_append];rfl
def vq (q x:Nat) (l:List (CoT q)):Nat:=l.foldl (fun r c=>(r*x%q+c.1.2)%q) 0
theorem qV (q x:Nat) (l:List (CoT q)) (c:CoT q):vq q x (l++[c])=(vq q x l*x%q+c.1.2)%q:=by unfold vq;rw[List.foldl_append];rfl
theorem ba {q x:Nat} (h:1<q) (l:List (CoT q)):vq q x l<q:=by
 rcases List.eq_nil_or_concat l with rfl|⟨l,c,rfl⟩
 ·show 0<q;omega
 ·rw[List.concat_eq_append,qV];exact Nat.mod_lt _ (by omega)
theorem jT (q x:Nat) (l:List Nat):iu q x l=l.foldr (fun c r=>(r*x%q+c)%q) 0:=by
 induction l with
 | nil=>rfl
 | cons c r ih=>simp only[iu,List.foldr_cons,ih]
theorem lL {q:Nat} (x:Nat) {l:List Nat} (h:∀ c∈l,c<q):vq q x (r7 l h l.length)=yH l x%q:=by
 rw[← bu,jT,vq,pG h (fun r c=>(r*x%q+c)%q) _ (Nat.le_refl _),List.take_length,List.foldl_reverse]
end Sx
end
end Go.Proofs.YteibfbjpkjkejaaGreatDoor
