/- Part 20 of the proof: GpA -/
import Derived.Test.YtiiacjladnljhaaGreatDoorM18
import Derived.Test.YtiiacjladnljhaaGreatDoorM19
set_option linter.unusedSimpArgs false
set_option linter.unusedVariables false
namespace Go.Proofs.YtiiacjladnljhaaGreatDoor
open Go Go.RowKit Go.BigFrame
namespace Sx
attribute [local irreducible] DQ DQS WO WC
theorem c_pairs (pa pb:Option Addr) (la lb ca cb:Nat):Fn Tryz.prog 193 [.slice pa la ca,.slice pb lb cb] Tr (Ex (fun s=>.func (.func 237) #[] #[pt (s 0),pt (s 1)]) (fun s=>[⟨s 1,30,[.slice pb lb cb]⟩,⟨s 0,30,[.slice pa la ca]⟩]) (fun _=>True)):=by
  refine Fn.enter Tryz.func193 rfl rfl rfl ?_
  intro w hw
  repeat (first|refine Ta ?_|(refine Tm ?_;intro _)|refine WO.does (does_func rfl rfl) ?_|refine Tc ?_|exact Tz)
  rename_i g1 g2
  exact WX.ret1 rfl (rv_tmp rfl) [⟨g2,30,[.slice pb lb cb]⟩,⟨g1,30,[.slice pa la ca]⟩] (Lle.cons Pk.here rfl (Lle.cons Pk.here rfl Lle.nil)) ⟨fun i=>if i=0 then g1 else g2,rfl,rfl,trivial⟩
abbrev q0 (l:Nat):Nat × Value:=(0,.func (.yield l) #[] #[])
abbrev q1 (g:Nat):Nat × Value:=(1,pt g)
abbrev q2 (g:Nat):Nat × Value:=(2,pt g)
abbrev qi (j:Nat) (k:Nat):Nat × Value:=(j,.int .i64 (k:Int))
abbrev qf (l:Nat):Nat × Value:=(10,.func (.yield l) #[] #[])
abbrev qs (j b o n c:Nat):Nat × Value:=(j,.slice (some ⟨b,o,none⟩) n c)
abbrev qp (j b o k:Nat):Nat × Value:=(j,.pointer (some ⟨b,o+k*4,none⟩))
abbrev qn (j a:Nat):Nat × Value:=(j,numV a)
set_option maxHeartbeats 2000000 in
theorem pairs_in (m:Nat) {α:Type} (fa fn:α→Nat) (xs:List α) (gA gN bA oA bN oN cA cN l:Nat) (J Jx:List α→World→Prop) (hn:xs.length≤1099511627776) (hJo:∀ s A B,J s A→Mod [] A B→J s B) (hJxo:∀ s A B,Jx s A→Mod [] A B→Jx s B)
    (hY:∀ pre x W,J pre W→pre.length<xs.length→YieldAt (fw none) (m - 1) Tryz.prog l #[numV (fa x),numV (fn x)] W fun e W'=>(e=.returned (.bool true)∧J (pre++[x]) W'∧KeepB [gA,gN,bA,bN] W W'∧W.heap.size≤W'.heap.size)∨(e=.returned (.bool false)∧Jx (pre++[x]) W'))
    (W:World) (hA:Seg W gA 0 [.slice (some ⟨bA,oA,none⟩) xs.length cA]) (hN:Seg W gN 0 [.slice (some ⟨bN,oN,none⟩) xs.length cN]) (hSA:∀ k x,xs[k]?=some x→Seg W bA (oA+k*4) (numC (fa x))) (hSN:∀ k x,xs[k]?=some x→Seg W bN (oN+k*4) (numC (fn x))) (hlt:∀ k∈[gA,gN,bA,bN],k<W.heap.size) (h0:J [] W) :
    CallsIn (fw none) m Tryz.prog 237 [.func (.yield l) #[] #[],pt gA,pt gN].toArray W fun e W'=>(∃ v,e=.returned v)∧((∃ ys,ys=xs∧J ys W')∨(∃ pre,True∧Jx pre W')):=by
  refine callsIn_enter (n:=22) Tryz.func237 rfl rfl rfl ?_
  have hQ:¬ LetsOut (bodyPost Tryz.prog Tryz.f237 fun e W'=>(∃ v,e=.returned v)∧((∃ ys,ys=xs∧J ys W')∨(∃ pre,True∧Jx pre W'))):=by
    rintro ⟨a,w,⟨v,h⟩,_⟩
    cases h
  refine WI.seq (WI.region ?_ (by exact hQ))
  refine WO.does (a_loadF1 (hs:=hA)) ?_
  refine WO.auto (k:=?_)
  refine WO.auto (k:=?_)
  refine WO.nil (WX.seqI ?_)
  refine WI.block ?_
  refine WI.loopW (σ:=Nat) (fun k=>[(0,.func (.yield l) #[] #[]),(1,pt gA),(2,pt gN),(6,.int .i64 (xs.length:Int)),(7,.int .i64 (k:Int))]) (fun k w=>k≤xs.length∧J (xs.take k) w∧KeepB [gA,gN,bA,bN] W w∧W.heap.size≤w.heap.size) (fun k=>xs.length - k) 0 (fun w hw=>⟨Nat.zero_le _,?_,?_,hw.mod.size⟩) ?_ ?_
  · have:=hJo [] W w h0 hw.mod
    simpa using this
  · exact KeepB.of_mod hw.mod (fun k hk=>⟨hlt k hk,by simp⟩)
  · repeat (first|exact Kle.nil|refine Kle.cons rfl rfl ?_)
  · rintro k w1 ⟨hk,hJ,hKp,hsz⟩
    have hlw:∀ j∈[gA,gN,bA,bN],j<w1.heap.size:=fun j hj=>Nat.lt_of_lt_of_le (hlt j hj) hsz
    have hA':=hKp.seg (b:=gA) (by simp) hA
    have hN':=hKp.seg (b:=gN) (by simp) hN
    refine WI.seq (WI.region ?_ (by exact hQ))
    refine WO.auto (k:=?_)
    refine WO.nil (WX.seqI ?_)
    refine WI.seq ?_
    by_cases hkl:k<xs.length
    · refine WI.condT (show some (Value.bool (decide ((k:Int)<(xs.length:Int))))=some (Value.bool true) by rw[decide_eq_true (by omega)]) ?_
      refine WI.skip (WX.seqI ?_)
      obtain⟨x,hx⟩ : ∃ x,xs[k]?=some x:=⟨_,List.getElem?_eq_getElem hkl⟩
      have hSA':=hKp.seg (b:=bA) (by simp) (hSA k x hx)
      have hSN':=hKp.seg (b:=bN) (by simp) (hSN k x hx)
      have hx' : xs.take k++[x]=xs.take (k+1):=by rw[List.take_add_one,hx];rfl
      refine WI.seq ?_
      refine WI.block ?_
      refine WI.seq (WI.region ?_ (by exact hQ))
      refine WO.auto (k:=?_)
      refine WO.auto (k:=?_)
      refine WO.nil (WX.seqI ?_)
      refine WI.seq ?_
      refine WI.headV [(10,.func (.yield l) #[] #[]),(11,.slice (some ⟨bA,oA,none⟩) xs.length cA),(12,.int .i64 (k:Int)),(13,.pointer (some ⟨bA,oA+k*4,none⟩)),(14,numV (fa x)),(15,.slice (some ⟨bN,oN,none⟩) xs.length cN),(16,.int .i64 (k:Int)),(17,.pointer (some ⟨bN,oN+k*4,none⟩)),(18,numV (fn x)),(0,.func (.yield l) #[] #[]),(1,pt gA),(2,pt gN),(4,.int .i64 (k:Int)),(6,.int .i64 (xs.length:Int)),(7,.int .i64 (k:Int))] [] [true,true,true,true,true,true,true,true,true,false,false] 2 (by exact hQ) (fun Q A hA hC=>?_) ?_
      · clear hlw hsz hY hJo hlt hSA hSN h0 hJ hKp
        suffices hS511:A [qf l,qs 11 bA oA xs.length cA,qi 12 k,qp 13 bA oA k,qn 14 (fa x),qs 15 bN oN xs.length cN,qi 16 k,qp 17 bN oN k,qn 18 (fn x),q0 l,q1 gA,q2 gN,qi 4 k,qi 6 xs.length,qi 7 k] [] [true,true,true,true,true,true,true,true,true,false,false] 2 by
          have hS255:A [qf l,qs 11 bA oA xs.length cA,qi 12 k,qp 13 bA oA k,qn 14 (fa x),qs 15 bN oN xs.length cN,qi 16 k,qp 17 bN oN k,q0 l,q1 gA,q2 gN,qi 4 k,qi 6 xs.length,qi 7 k] [] [true,true,true,true,true,true,true,true,false,false,false] 3:=by
            refine (hA _ _ _ _).2 (VA.step [8] ?_)
            refine EachV.cons (fun hQ1 hd1=>?_) ?_
            · refine WO.does (does_loadF hSN' (i:=0) rfl List.not_mem_nil (vs:=numC (fn x)) rfl rfl) ?_
              refine WO.nil (WX.va ?_ hQ1 hd1)
              exact VA.less _ _ ((hA _ _ _ _).1 (hS511))
            exact EachV.nil
          have hS495:A [qf l,qs 11 bA oA xs.length cA,qi 12 k,qp 13 bA oA k,qs 15 bN oN xs.length cN,qi 16 k,qp 17 bN oN k,qn 18 (fn x),q0 l,q1 gA,q2 gN,qi 4 k,qi 6 xs.length,qi 7 k] [] [true,true,true,true,false,true,true,true,true,false,false] 3:=by
            refine (hA _ _ _ _).2 (VA.step [4] ?_)
            refine EachV.cons (fun hQ1 hd1=>?_) ?_
            · refine WO.does (does_loadF hSA' (i:=0) rfl List.not_mem_nil (vs:=numC (fa x)) rfl rfl) ?_
              refine WO.nil (WX.va ?_ hQ1 hd1)
              exact VA.less _ _ ((hA _ _ _ _).1 (hS511))
            exact EachV.nil
          have hS510:A [qs 11 bA oA xs.length cA,qi 12 k,qp 13 bA oA k,qn 14 (fa x),qs 15 bN oN xs.length cN,qi 16 k,qp 17 bN oN k,qn 18 (fn x),q0 l,q1 gA,q2 gN,qi 4 k,qi 6 xs.length,qi 7 k] [] [false,true,true,true,true,true,true,true,true,false,false] 3:=by
            refine (hA _ _ _ _).2 (VA.step [0] ?_)
            refine EachV.cons (fun hQ1 hd1=>?_) ?_
            · refine WO.does (does_move rfl) ?_
              refine WO.nil (WX.va ?_ hQ1 hd1)
              exact VA.less _ _ ((hA _ _ _ _).1 (hS511))
            exact EachV.nil
          have hS127:A [qf l,qs 11 bA oA xs.length cA,qi 12 k,qp 13 bA oA k,qn 14 (fa x),qs 15 bN oN xs.length cN,qi 16 k,q0 l,q1 gA,q2 gN,qi 4 k,qi 6 xs.length,qi 7 k] [] [true,true,true,true,true,true,true,false,false,false,false] 4:=by
            refine (hA _ _ _ _).2 (VA.step [7] ?_)
            refine EachV.cons (fun hQ1 hd1=>?_) ?_
            · refine WO.does (does_indexSlice rfl rfl hkl rfl) ?_
              refine WO.nil (WX.va ?_ hQ1 hd1)
              exact VA.less _ _ ((hA _ _ _ _).1 (hS255))
            exact EachV.nil
          have hS239:A [qf l,qs 11 bA oA xs.length cA,qi 12 k,qp 13 bA oA k,qs 15 bN oN xs.length cN,qi 16 k,qp 17 bN oN k,q0 l,q1 gA,q2 gN,qi 4 k,qi 6 xs.length,qi 7 k] [] [true,true,true,true,false,true,true,true,false,false,false] 4:=by
            refine (hA _ _ _ _).2 (VA.step [4,8] ?_)
            refine EachV.cons (fun hQ1 hd1=>?_) ?_
            · refine WO.does (does_loadF hSA' (i:=0) rfl List.not_mem_nil (vs:=numC (fa x)) rfl rfl) ?_
              refine WO.nil (WX.va ?_ hQ1 hd1)
              exact VA.less _ _ ((hA _ _ _ _).1 (hS255))
            refine EachV.cons (fun hQ1 hd1=>?_) ?_
            · refine WO.does (does_loadF hSN' (i:=0) rfl List.not_mem_nil (vs:=numC (fn x)) rfl rfl) ?_
              refine WO.nil (WX.va ?_ hQ1 hd1)
              exact VA.less _ _ ((hA _ _ _ _).1 (hS495))
            exact EachV.nil
          have hS487:A [qf l,qs 11 bA oA xs.length cA,qi 12 k,qs 15 bN oN xs.length cN,qi 16 k,qp 17 bN oN k,qn 18 (fn x),q0 l,q1 gA,q2 gN,qi 4 k,qi 6 xs.length,qi 7 k] [] [true,true,true,false,false,true,true,true,true,false,false] 4:=by
            refine (hA _ _ _ _).2 (VA.step [3] ?_)
            refine EachV.cons (fun hQ1 hd1=>?_) ?_
            · refine WO.does (does_indexSlice rfl rfl hkl rfl) ?_
              refine WO.nil (WX.va ?_ hQ1 hd1)
              exact VA.less _ _ ((hA _ _ _ _).1 (hS495))
            exact EachV.nil
          have hS254:A [qs 11 bA oA xs.length cA,qi 12 k,qp 13 bA oA k,qn 14 (fa x),qs 15 bN oN xs.length cN,qi 16 k,qp 17 bN oN k,q0 l,q1 gA,q2 gN,qi 4 k,qi 6 xs.length,qi 7 k] [] [false,true,true,true,true,true,true,true,false,false,false] 4:=by
            refine (hA _ _ _ _).2 (VA.step [0,8] ?_)
            refine EachV.cons (fun hQ1 hd1=>?_) ?_
            · refine WO.does (does_move rfl) ?_
              refine WO.nil (WX.va ?_ hQ1 hd1)
              exact VA.less _ _ ((hA _ _ _ _).1 (hS255))
            refine EachV.cons (fun hQ1 hd1=>?_) ?_
            · refine WO.does (does_loadF hSN' (i:=0) rfl List.not_mem_nil (vs:=numC (fn x)) rfl rfl) ?_
              refine WO.nil (WX.va ?_ hQ1 hd1)
              exact VA.less _ _ ((hA _ _ _ _).1 (hS510))
            exact EachV.nil
          have hS494:A [qs 11 bA oA xs.length cA,qi 12 k,qp 13 bA oA k,qs 15 bN oN xs.length cN,qi 16 k,qp 17 bN oN k,qn 18 (fn x),q0 l,q1 gA,q2 gN,qi 4 k,qi 6 xs.length,qi 7 k] [] [false,true,true,true,false,true,true,true,true,false,false] 4:=by
            refine (hA _ _ _ _).2 (VA.step [0,4] ?_)
            refine EachV.cons (fun hQ1 hd1=>?_) ?_
            · refine WO.does (does_move rfl) ?_
              refine WO.nil (WX.va ?_ hQ1 hd1)
              exact VA.less _ _ ((hA _ _ _ _).1 (hS495))
            refine EachV.cons (fun hQ1 hd1=>?_) ?_
            · refine WO.does (does_loadF hSA' (i:=0) rfl List.not_mem_nil (vs:=numC (fa x)) rfl rfl) ?_
              refine WO.nil (WX.va ?_ hQ1 hd1)
              exact VA.less _ _ ((hA _ _ _ _).1 (hS510))
            exact EachV.nil
          have hS63:A [qf l,qs 11 bA oA xs.length cA,qi 12 k,qp 13 bA oA k,qn 14 (fa x),qs 15 bN oN xs.length cN,q0 l,q1 gA,q2 gN,qi 4 k,qi 6 xs.length,qi 7 k] [] [true,true,true,true,true,true,false,false,false,false,false] 5:=by
            refine (hA _ _ _ _).2 (VA.step [6] ?_)
            refine EachV.cons (fun hQ1 hd1=>?_) ?_
            · refine WO.does (does_move rfl) ?_
              refine WO.nil (WX.va ?_ hQ1 hd1)
              exact VA.less _ _ ((hA _ _ _ _).1 (hS127))
            exact EachV.nil
          have hS95:A [qf l,qs 11 bA oA xs.length cA,qi 12 k,qp 13 bA oA k,qn 14 (fa x),qi 16 k,q0 l,q1 gA,q2 gN,qi 4 k,qi 6 xs.length,qi 7 k] [] [true,true,true,true,true,false,true,false,false,false,false] 5:=by
            refine (hA _ _ _ _).2 (VA.step [5] ?_)
            refine EachV.cons (fun hQ1 hd1=>?_) ?_
            · refine WO.does (does_loadF1 hN' (i:=0) rfl List.not_mem_nil rfl) ?_
              refine WO.nil (WX.va ?_ hQ1 hd1)
              exact VA.less _ _ ((hA _ _ _ _).1 (hS127))
            exact EachV.nil
          have hS111:A [qf l,qs 11 bA oA xs.length cA,qi 12 k,qp 13 bA oA k,qs 15 bN oN xs.length cN,qi 16 k,q0 l,q1 gA,q2 gN,qi 4 k,qi 6 xs.length,qi 7 k] [] [true,true,true,true,false,true,true,false,false,false,false] 5:=by
            refine (hA _ _ _ _).2 (VA.step [4,7] ?_)
            refine EachV.cons (fun hQ1 hd1=>?_) ?_
            · refine WO.does (does_loadF hSA' (i:=0) rfl List.not_mem_nil (vs:=numC (fa x)) rfl rfl) ?_
              refine WO.nil (WX.va ?_ hQ1 hd1)
              exact VA.less _ _ ((hA _ _ _ _).1 (hS127))
            refine EachV.cons (fun hQ1 hd1=>?_) ?_
            · refine WO.does (does_indexSlice rfl rfl hkl rfl) ?_
              refine WO.nil (WX.va ?_ hQ1 hd1)
              exact VA.less _ _ ((hA _ _ _ _).1 (hS239))
            exact EachV.nil
          have hS231:A [qf l,qs 11 bA oA xs.length cA,qi 12 k,qs 15 bN oN xs.length cN,qi 16 k,qp 17 bN oN k,q0 l,q1 gA,q2 gN,qi 4 k,qi 6 xs.length,qi 7 k] [] [true,true,true,false,false,true,true,true,false,false,false] 5:=by
            refine (hA _ _ _ _).2 (VA.step [3,8] ?_)
            refine EachV.cons (fun hQ1 hd1=>?_) ?_
            · refine WO.does (does_indexSlice rfl rfl hkl rfl) ?_
              refine WO.nil (WX.va ?_ hQ1 hd1)
              exact VA.less _ _ ((hA _ _ _ _).1 (hS239))
            refine EachV.cons (fun hQ1 hd1=>?_) ?_
            · refine WO.does (does_loadF hSN' (i:=0) rfl List.not_mem_nil (vs:=numC (fn x)) rfl rfl) ?_
              refine WO.nil (WX.va ?_ hQ1 hd1)
              exact VA.less _ _ ((hA _ _ _ _).1 (hS487))
            exact EachV.nil
          have hS483:A [qf l,qs 11 bA oA xs.length cA,qs 15 bN oN xs.length cN,qi 16 k,qp 17 bN oN k,qn 18 (fn x),q0 l,q1 gA,q2 gN,qi 4 k,qi 6 xs.length,qi 7 k] [] [true,true,false,false,false,true,true,true,true,false,false] 5:=by
            refine (hA _ _ _ _).2 (VA.step [2] ?_)
            refine EachV.cons (fun hQ1 hd1=>?_) ?_
            · refine WO.does (does_move rfl) ?_
              refine WO.nil (WX.va ?_ hQ1 hd1)
              exact VA.less _ _ ((hA _ _ _ _).1 (hS487))
            exact EachV.nil
          have hS485:A [qf l,qi 12 k,qs 15 bN oN xs.length cN,qi 16 k,qp 17 bN oN k,qn 18 (fn x),q0 l,q1 gA,q2 gN,qi 4 k,qi 6 xs.length,qi 7 k] [] [true,false,true,false,false,true,true,true,true,false,false] 5:=by
            refine (hA _ _ _ _).2 (VA.step [1] ?_)
            refine EachV.cons (fun hQ1 hd1=>?_) ?_
            · refine WO.does (does_loadF1 hA' (i:=0) rfl List.not_mem_nil rfl) ?_
              refine WO.nil (WX.va ?_ hQ1 hd1)
              exact VA.less _ _ ((hA _ _ _ _).1 (hS487))
            exact EachV.nil
          have hS126:A [qs 11 bA oA xs.length cA,qi 12 k,qp 13 bA oA k,qn 14 (fa x),qs 15 bN oN xs.length cN,qi 16 k,q0 l,q1 gA,q2 gN,qi 4 k,qi 6 xs.length,qi 7 k] [] [false,true,true,true,true,true,true,false,false,false,false] 5:=by
            refine (hA _ _ _ _).2 (VA.step [0,7] ?_)
            refine EachV.cons (fun hQ1 hd1=>?_) ?_
            · refine WO.does (does_move rfl) ?_
              refine WO.nil (WX.va ?_ hQ1 hd1)
              exact VA.less _ _ ((hA _ _ _ _).1 (hS127))
            refine EachV.cons (fun hQ1 hd1=>?_) ?_
            · refine WO.does (does_indexSlice rfl rfl hkl rfl) ?_
              refine WO.nil (WX.va ?_ hQ1 hd1)
              exact VA.less _ _ ((hA _ _ _ _).1 (hS254))
            exact EachV.nil
          have hS238:A [qs 11 bA oA xs.length cA,qi 12 k,qp 13 bA oA k,qs 15 bN oN xs.length cN,qi 16 k,qp 17 bN oN k,q0 l,q1 gA,q2 gN,qi 4 k,qi 6 xs.length,qi 7 k] [] [false,true,true,true,false,true,true,true,false,false,false] 5:=by
            refine (hA _ _ _ _).2 (VA.step [0,4,8] ?_)
            refine EachV.cons (fun hQ1 hd1=>?_) ?_
            · refine WO.does (does_move rfl) ?_
              refine WO.nil (WX.va ?_ hQ1 hd1)
              exact VA.less _ _ ((hA _ _ _ _).1 (hS239))
            refine EachV.cons (fun hQ1 hd1=>?_) ?_
            · refine WO.does (does_loadF hSA' (i:=0) rfl List.not_mem_nil (vs:=numC (fa x)) rfl rfl) ?_
              refine WO.nil (WX.va ?_ hQ1 hd1)
              exact VA.less _ _ ((hA _ _ _ _).1 (hS254))
            refine EachV.cons (fun hQ1 hd1=>?_) ?_
            · refine WO.does (does_loadF hSN' (i:=0) rfl List.not_mem_nil (vs:=numC (fn x)) rfl rfl) ?_
              refine WO.nil (WX.va ?_ hQ1 hd1)
              exact VA.less _ _ ((hA _ _ _ _).1 (hS494))
            exact EachV.nil
          have hS486:A [qs 11 bA oA xs.length cA,qi 12 k,qs 15 bN oN xs.length cN,qi 16 k,qp 17 bN oN k,qn 18 (fn x),q0 l,q1 gA,q2 gN,qi 4 k,qi 6 xs.length,qi 7 k] [] [false,true,true,false,false,true,true,true,true,false,false] 5:=by
            refine (hA _ _ _ _).2 (VA.step [0,3] ?_)
            refine EachV.cons (fun hQ1 hd1=>?_) ?_
            · refine WO.does (does_move rfl) ?_
              refine WO.nil (WX.va ?_ hQ1 hd1)
              exact VA.less _ _ ((hA _ _ _ _).1 (hS487))
            refine EachV.cons (fun hQ1 hd1=>?_) ?_
            · refine WO.does (does_indexSlice rfl rfl hkl rfl) ?_
              refine WO.nil (WX.va ?_ hQ1 hd1)
              exact VA.less _ _ ((hA _ _ _ _).1 (hS494))
            exact EachV.nil
          have hS31:A [qf l,qs 11 bA oA xs.length cA,qi 12 k,qp 13 bA oA k,qn 14 (fa x),q0 l,q1 gA,q2 gN,qi 4 k,qi 6 xs.length,qi 7 k] [] [true,true,true,true,true,false,false,false,false,false,false] 6:=by
            refine (hA _ _ _ _).2 (VA.step [5,6] ?_)
            refine EachV.cons (fun hQ1 hd1=>?_) ?_
            · refine WO.does (does_loadF1 hN' (i:=0) rfl List.not_mem_nil rfl) ?_
              refine WO.nil (WX.va ?_ hQ1 hd1)
              exact VA.less _ _ ((hA _ _ _ _).1 (hS63))
            refine EachV.cons (fun hQ1 hd1=>?_) ?_
            · refine WO.does (does_move rfl) ?_
              refine WO.nil (WX.va ?_ hQ1 hd1)
              exact VA.less _ _ ((hA _ _ _ _).1 (hS95))
            exact EachV.nil
          have hS47:A [qf l,qs 11 bA oA xs.length cA,qi 12 k,qp 13 bA oA k,qs 15 bN oN xs.length cN,q0 l,q1 gA,q2 gN,qi 4 k,qi 6 xs.length,qi 7 k] [] [true,true,true,true,false,true,false,false,false,false,false] 6:=by
            refine (hA _ _ _ _).2 (VA.step [4,6] ?_)
            refine EachV.cons (fun hQ1 hd1=>?_) ?_
            · refine WO.does (does_loadF hSA' (i:=0) rfl List.not_mem_nil (vs:=numC (fa x)) rfl rfl) ?_
              refine WO.nil (WX.va ?_ hQ1 hd1)
              exact VA.less _ _ ((hA _ _ _ _).1 (hS63))
            refine EachV.cons (fun hQ1 hd1=>?_) ?_
            · refine WO.does (does_move rfl) ?_
              refine WO.nil (WX.va ?_ hQ1 hd1)
              exact VA.less _ _ ((hA _ _ _ _).1 (hS111))
            exact EachV.nil
          have hS79:A [qf l,qs 11 bA oA xs.length cA,qi 12 k,qp 13 bA oA k,qi 16 k,q0 l,q1 gA,q2 gN,qi 4 k,qi 6 xs.length,qi 7 k] [] [true,true,true,true,false,false,true,false,false,false,false] 6:=by
            refine (hA _ _ _ _).2 (VA.step [4,5] ?_)
            refine EachV.cons (fun hQ1 hd1=>?_) ?_
            · refine WO.does (does_loadF hSA' (i:=0) rfl List.not_mem_nil (vs:=numC (fa x)) rfl rfl) ?_
              refine WO.nil (WX.va ?_ hQ1 hd1)
              exact VA.less _ _ ((hA _ _ _ _).1 (hS95))
            refine EachV.cons (fun hQ1 hd1=>?_) ?_
            · refine WO.does (does_loadF1 hN' (i:=0) rfl List.not_mem_nil rfl) ?_
              refine WO.nil (WX.va ?_ hQ1 hd1)
              exact VA.less _ _ ((hA _ _ _ _).1 (hS111))
            exact EachV.nil
          have hS103:A [qf l,qs 11 bA oA xs.length cA,qi 12 k,qs 15 bN oN xs.length cN,qi 16 k,q0 l,q1 gA,q2 gN,qi 4 k,qi 6 xs.length,qi 7 k] [] [true,true,true,false,false,true,true,false,false,false,false] 6:=by
            refine (hA _ _ _ _).2 (VA.step [3,7] ?_)
            refine EachV.cons (fun hQ1 hd1=>?_) ?_
            · refine WO.does (does_indexSlice rfl rfl hkl rfl) ?_
              refine WO.nil (WX.va ?_ hQ1 hd1)
              exact VA.less _ _ ((hA _ _ _ _).1 (hS111))
            refine EachV.cons (fun hQ1 hd1=>?_) ?_
            · refine WO.does (does_indexSlice rfl rfl hkl rfl) ?_
              refine WO.nil (WX.va ?_ hQ1 hd1)
              exact VA.less _ _ ((hA _ _ _ _).1 (hS231))
            exact EachV.nil
          have hS227:A [qf l,qs 11 bA oA xs.length cA,qs 15 bN oN xs.length cN,qi 16 k,qp 17 bN oN k,q0 l,q1 gA,q2 gN,qi 4 k,qi 6 xs.length,qi 7 k] [] [true,true,false,false,false,true,true,true,false,false,false] 6:=by
            refine (hA _ _ _ _).2 (VA.step [2,8] ?_)
            refine EachV.cons (fun hQ1 hd1=>?_) ?_
            · refine WO.does (does_move rfl) ?_
              refine WO.nil (WX.va ?_ hQ1 hd1)
              exact VA.less _ _ ((hA _ _ _ _).1 (hS231))
            refine EachV.cons (fun hQ1 hd1=>?_) ?_
            · refine WO.does (does_loadF hSN' (i:=0) rfl List.not_mem_nil (vs:=numC (fn x)) rfl rfl) ?_
              refine WO.nil (WX.va ?_ hQ1 hd1)
              exact VA.less _ _ ((hA _ _ _ _).1 (hS483))
            exact EachV.nil
          have hS229:A [qf l,qi 12 k,qs 15 bN oN xs.length cN,qi 16 k,qp 17 bN oN k,q0 l,q1 gA,q2 gN,qi 4 k,qi 6 xs.length,qi 7 k] [] [true,false,true,false,false,true,true,true,false,false,false] 6:=by
            refine (hA _ _ _ _).2 (VA.step [1,8] ?_)
            refine EachV.cons (fun hQ1 hd1=>?_) ?_
            · refine WO.does (does_loadF1 hA' (i:=0) rfl List.not_mem_nil rfl) ?_
              refine WO.nil (WX.va ?_ hQ1 hd1)
              exact VA.less _ _ ((hA _ _ _ _).1 (hS231))
            refine EachV.cons (fun hQ1 hd1=>?_) ?_
            · refine WO.does (does_loadF hSN' (i:=0) rfl List.not_mem_nil (vs:=numC (fn x)) rfl rfl) ?_
              refine WO.nil (WX.va ?_ hQ1 hd1)
              exact VA.less _ _ ((hA _ _ _ _).1 (hS485))
            exact EachV.nil
          have hS481:A [qf l,qs 15 bN oN xs.length cN,qi 16 k,qp 17 bN oN k,qn 18 (fn x),q0 l,q1 gA,q2 gN,qi 4 k,qi 6 xs.length,qi 7 k] [] [true,false,false,false,false,true,true,true,true,false,false] 6:=by
            refine (hA _ _ _ _).2 (VA.step [1,2] ?_)
            refine EachV.cons (fun hQ1 hd1=>?_) ?_
            · refine WO.does (does_loadF1 hA' (i:=0) rfl List.not_mem_nil rfl) ?_
              refine WO.nil (WX.va ?_ hQ1 hd1)
              exact VA.less _ _ ((hA _ _ _ _).1 (hS483))
            refine EachV.cons (fun hQ1 hd1=>?_) ?_
            · refine WO.does (does_move rfl) ?_
              refine WO.nil (WX.va ?_ hQ1 hd1)
              exact VA.less _ _ ((hA _ _ _ _).1 (hS485))
            exact EachV.nil
          have hS62:A [qs 11 bA oA xs.length cA,qi 12 k,qp 13 bA oA k,qn 14 (fa x),qs 15 bN oN xs.length cN,q0 l,q1 gA,q2 gN,qi 4 k,qi 6 xs.length,qi 7 k] [] [false,true,true,true,true,true,false,false,false,false,false] 6:=by
            refine (hA _ _ _ _).2 (VA.step [0,6] ?_)
            refine EachV.cons (fun hQ1 hd1=>?_) ?_
            · refine WO.does (does_move rfl) ?_
              refine WO.nil (WX.va ?_ hQ1 hd1)
              exact VA.less _ _ ((hA _ _ _ _).1 (hS63))
            refine EachV.cons (fun hQ1 hd1=>?_) ?_
            · refine WO.does (does_move rfl) ?_
              refine WO.nil (WX.va ?_ hQ1 hd1)
              exact VA.less _ _ ((hA _ _ _ _).1 (hS126))
            exact EachV.nil
          have hS94:A [qs 11 bA oA xs.length cA,qi 12 k,qp 13 bA oA k,qn 14 (fa x),qi 16 k,q0 l,q1 gA,q2 gN,qi 4 k,qi 6 xs.length,qi 7 k] [] [false,true,true,true,true,false,true,false,false,false,false] 6:=by
            refine (hA _ _ _ _).2 (VA.step [0,5] ?_)
            refine EachV.cons (fun hQ1 hd1=>?_) ?_
            · refine WO.does (does_move rfl) ?_
              refine WO.nil (WX.va ?_ hQ1 hd1)
              exact VA.less _ _ ((hA _ _ _ _).1 (hS95))
            refine EachV.cons (fun hQ1 hd1=>?_) ?_
            · refine WO.does (does_loadF1 hN' (i:=0) rfl List.not_mem_nil rfl) ?_
              refine WO.nil (WX.va ?_ hQ1 hd1)
              exact VA.less _ _ ((hA _ _ _ _).1 (hS126))
            exact EachV.nil
          have hS110:A [qs 11 bA oA xs.length cA,qi 12 k,qp 13 bA oA k,qs 15 bN oN xs.length cN,qi 16 k,q0 l,q1 gA,q2 gN,qi 4 k,qi 6 xs.length,qi 7 k] [] [false,true,true,true,false,true,true,false,false,false,false] 6:=by
            refine (hA _ _ _ _).2 (VA.step [0,4,7] ?_)
            refine EachV.cons (fun hQ1 hd1=>?_) ?_
            · refine WO.does (does_move rfl) ?_
              refine WO.nil (WX.va ?_ hQ1 hd1)
              exact VA.less _ _ ((hA _ _ _ _).1 (hS111))
            refine EachV.cons (fun hQ1 hd1=>?_) ?_
            · refine WO.does (does_loadF hSA' (i:=0) rfl List.not_mem_nil (vs:=numC (fa x)) rfl rfl) ?_
              refine WO.nil (WX.va ?_ hQ1 hd1)
              exact VA.less _ _ ((hA _ _ _ _).1 (hS126))
            refine EachV.cons (fun hQ1 hd1=>?_) ?_
            · refine WO.does (does_indexSlice rfl rfl hkl rfl) ?_
              refine WO.nil (WX.va ?_ hQ1 hd1)
              exact VA.less _ _ ((hA _ _ _ _).1 (hS238))
            exact EachV.nil
          have hS230:A [qs 11 bA oA xs.length cA,qi 12 k,qs 15 bN oN xs.length cN,qi 16 k,qp 17 bN oN k,q0 l,q1 gA,q2 gN,qi 4 k,qi 6 xs.length,qi 7 k] [] [false,true,true,false,false,true,true,true,false,false,false] 6:=by
            refine (hA _ _ _ _).2 (VA.step [0,3,8] ?_)
            refine EachV.cons (fun hQ1 hd1=>?_) ?_
            · refine WO.does (does_move rfl) ?_
              refine WO.nil (WX.va ?_ hQ1 hd1)
              exact VA.less _ _ ((hA _ _ _ _).1 (hS231))
            refine EachV.cons (fun hQ1 hd1=>?_) ?_
            · refine WO.does (does_indexSlice rfl rfl hkl rfl) ?_
              refine WO.nil (WX.va ?_ hQ1 hd1)
              exact VA.less _ _ ((hA _ _ _ _).1 (hS238))
            refine EachV.cons (fun hQ1 hd1=>?_) ?_
            · refine WO.does (does_loadF hSN' (i:=0) rfl List.not_mem_nil (vs:=numC (fn x)) rfl rfl) ?_
              refine WO.nil (WX.va ?_ hQ1 hd1)
              exact VA.less _ _ ((hA _ _ _ _).1 (hS486))
            exact EachV.nil
          have hS482:A [qs 11 bA oA xs.length cA,qs 15 bN oN xs.length cN,qi 16 k,qp 17 bN oN k,qn 18 (fn x),q0 l,q1 gA,q2 gN,qi 4 k,qi 6 xs.length,qi 7 k] [] [false,true,false,false,false,true,true,true,true,false,false] 6:=by
            refine (hA _ _ _ _).2 (VA.step [0,2] ?_)
            refine EachV.cons (fun hQ1 hd1=>?_) ?_
            · refine WO.does (does_move rfl) ?_
              refine WO.nil (WX.va ?_ hQ1 hd1)
              exact VA.less _ _ ((hA _ _ _ _).1 (hS483))
            refine EachV.cons (fun hQ1 hd1=>?_) ?_
            · refine WO.does (does_move rfl) ?_
              refine WO.nil (WX.va ?_ hQ1 hd1)
              exact VA.less _ _ ((hA _ _ _ _).1 (hS486))
            exact EachV.nil
          have hS484:A [qi 12 k,qs 15 bN oN xs.length cN,qi 16 k,qp 17 bN oN k,qn 18 (fn x),q0 l,q1 gA,q2 gN,qi 4 k,qi 6 xs.length,qi 7 k] [] [false,false,true,false,false,true,true,true,true,false,false] 6:=by
            refine (hA _ _ _ _).2 (VA.step [0,1] ?_)
            refine EachV.cons (fun hQ1 hd1=>?_) ?_
            · refine WO.does (does_move rfl) ?_
              refine WO.nil (WX.va ?_ hQ1 hd1)
              exact VA.less _ _ ((hA _ _ _ _).1 (hS485))
            refine EachV.cons (fun hQ1 hd1=>?_) ?_
            · refine WO.does (does_loadF1 hA' (i:=0) rfl List.not_mem_nil rfl) ?_
              refine WO.nil (WX.va ?_ hQ1 hd1)
              exact VA.less _ _ ((hA _ _ _ _).1 (hS486))
            exact EachV.nil
          have hS15:A [qf l,qs 11 bA oA xs.length cA,qi 12 k,qp 13 bA oA k,q0 l,q1 gA,q2 gN,qi 4 k,qi 6 xs.length,qi 7 k] [] [true,true,true,true,false,false,false,false,false,false,false] 7:=by
            refine (hA _ _ _ _).2 (VA.step [4,5,6] ?_)
            refine EachV.cons (fun hQ1 hd1=>?_) ?_
            · refine WO.does (does_loadF hSA' (i:=0) rfl List.not_mem_nil (vs:=numC (fa x)) rfl rfl) ?_
              refine WO.nil (WX.va ?_ hQ1 hd1)
              exact VA.less _ _ ((hA _ _ _ _).1 (hS31))
            refine EachV.cons (fun hQ1 hd1=>?_) ?_
            · refine WO.does (does_loadF1 hN' (i:=0) rfl List.not_mem_nil rfl) ?_
              refine WO.nil (WX.va ?_ hQ1 hd1)
              exact VA.less _ _ ((hA _ _ _ _).1 (hS47))
            refine EachV.cons (fun hQ1 hd1=>?_) ?_
            · refine WO.does (does_move rfl) ?_
              refine WO.nil (WX.va ?_ hQ1 hd1)
              exact VA.less _ _ ((hA _ _ _ _).1 (hS79))
            exact EachV.nil
          have hS39:A [qf l,qs 11 bA oA xs.length cA,qi 12 k,qs 15 bN oN xs.length cN,q0 l,q1 gA,q2 gN,qi 4 k,qi 6 xs.length,qi 7 k] [] [true,true,true,false,false,true,false,false,false,false,false] 7:=by
            refine (hA _ _ _ _).2 (VA.step [3,6] ?_)
            refine EachV.cons (fun hQ1 hd1=>?_) ?_
            · refine WO.does (does_indexSlice rfl rfl hkl rfl) ?_
              refine WO.nil (WX.va ?_ hQ1 hd1)
              exact VA.less _ _ ((hA _ _ _ _).1 (hS47))
            refine EachV.cons (fun hQ1 hd1=>?_) ?_
            · refine WO.does (does_move rfl) ?_
              refine WO.nil (WX.va ?_ hQ1 hd1)
              exact VA.less _ _ ((hA _ _ _ _).1 (hS103))
            exact EachV.nil
          have hS71:A [qf l,qs 11 bA oA xs.length cA,qi 12 k,qi 16 k,q0 l,q1 gA,q2 gN,qi 4 k,qi 6 xs.length,qi 7 k] [] [true,true,true,false,false,false,true,false,false,false,false] 7:=by
            refine (hA _ _ _ _).2 (VA.step [3,5] ?_)
            refine EachV.cons (fun hQ1 hd1=>?_) ?_
            · refine WO.does (does_indexSlice rfl rfl hkl rfl) ?_
              refine WO.nil (WX.va ?_ hQ1 hd1)
              exact VA.less _ _ ((hA _ _ _ _).1 (hS79))
            refine EachV.cons (fun hQ1 hd1=>?_) ?_
            · refine WO.does (does_loadF1 hN' (i:=0) rfl List.not_mem_nil rfl) ?_
              refine WO.nil (WX.va ?_ hQ1 hd1)
              exact VA.less _ _ ((hA _ _ _ _).1 (hS103))
            exact EachV.nil
          have hS99:A [qf l,qs 11 bA oA xs.length cA,qs 15 bN oN xs.length cN,qi 16 k,q0 l,q1 gA,q2 gN,qi 4 k,qi 6 xs.length,qi 7 k] [] [true,true,false,false,false,true,true,false,false,false,false] 7:=by
            refine (hA _ _ _ _).2 (VA.step [2,7] ?_)
            refine EachV.cons (fun hQ1 hd1=>?_) ?_
            · refine WO.does (does_move rfl) ?_
              refine WO.nil (WX.va ?_ hQ1 hd1)
              exact VA.less _ _ ((hA _ _ _ _).1 (hS103))
            refine EachV.cons (fun hQ1 hd1=>?_) ?_
            · refine WO.does (does_indexSlice rfl rfl hkl rfl) ?_
              refine WO.nil (WX.va ?_ hQ1 hd1)
              exact VA.less _ _ ((hA _ _ _ _).1 (hS227))
            exact EachV.nil
          have hS101:A [qf l,qi 12 k,qs 15 bN oN xs.length cN,qi 16 k,q0 l,q1 gA,q2 gN,qi 4 k,qi 6 xs.length,qi 7 k] [] [true,false,true,false,false,true,true,false,false,false,false] 7:=by
            refine (hA _ _ _ _).2 (VA.step [1,7] ?_)
            refine EachV.cons (fun hQ1 hd1=>?_) ?_
            · refine WO.does (does_loadF1 hA' (i:=0) rfl List.not_mem_nil rfl) ?_
              refine WO.nil (WX.va ?_ hQ1 hd1)
              exact VA.less _ _ ((hA _ _ _ _).1 (hS103))
            refine EachV.cons (fun hQ1 hd1=>?_) ?_
            · refine WO.does (does_indexSlice rfl rfl hkl rfl) ?_
              refine WO.nil (WX.va ?_ hQ1 hd1)
              exact VA.less _ _ ((hA _ _ _ _).1 (hS229))
            exact EachV.nil
          have hS225:A [qf l,qs 15 bN oN xs.length cN,qi 16 k,qp 17 bN oN k,q0 l,q1 gA,q2 gN,qi 4 k,qi 6 xs.length,qi 7 k] [] [true,false,false,false,false,true,true,true,false,false,false] 7:=by
            refine (hA _ _ _ _).2 (VA.step [1,2,8] ?_)
            refine EachV.cons (fun hQ1 hd1=>?_) ?_
            · refine WO.does (does_loadF1 hA' (i:=0) rfl List.not_mem_nil rfl) ?_
              refine WO.nil (WX.va ?_ hQ1 hd1)
              exact VA.less _ _ ((hA _ _ _ _).1 (hS227))
            refine EachV.cons (fun hQ1 hd1=>?_) ?_
            · refine WO.does (does_move rfl) ?_
              refine WO.nil (WX.va ?_ hQ1 hd1)
              exact VA.less _ _ ((hA _ _ _ _).1 (hS229))
            refine EachV.cons (fun hQ1 hd1=>?_) ?_
            · refine WO.does (does_loadF hSN' (i:=0) rfl List.not_mem_nil (vs:=numC (fn x)) rfl rfl) ?_
              refine WO.nil (WX.va ?_ hQ1 hd1)
              exact VA.less _ _ ((hA _ _ _ _).1 (hS481))
            exact EachV.nil
          have hS30:A [qs 11 bA oA xs.length cA,qi 12 k,qp 13 bA oA k,qn 14 (fa x),q0 l,q1 gA,q2 gN,qi 4 k,qi 6 xs.length,qi 7 k] [] [false,true,true,true,true,false,false,false,false,false,false] 7:=by
            refine (hA _ _ _ _).2 (VA.step [0,5,6] ?_)
            refine EachV.cons (fun hQ1 hd1=>?_) ?_
            · refine WO.does (does_move rfl) ?_
              refine WO.nil (WX.va ?_ hQ1 hd1)
              exact VA.less _ _ ((hA _ _ _ _).1 (hS31))
            refine EachV.cons (fun hQ1 hd1=>?_) ?_
            · refine WO.does (does_loadF1 hN' (i:=0) rfl List.not_mem_nil rfl) ?_
              refine WO.nil (WX.va ?_ hQ1 hd1)
              exact VA.less _ _ ((hA _ _ _ _).1 (hS62))
            refine EachV.cons (fun hQ1 hd1=>?_) ?_
            · refine WO.does (does_move rfl) ?_
              refine WO.nil (WX.va ?_ hQ1 hd1)
              exact VA.less _ _ ((hA _ _ _ _).1 (hS94))
            exact EachV.nil
          have hS46:A [qs 11 bA oA xs.length cA,qi 12 k,qp 13 bA oA k,qs 15 bN oN xs.length cN,q0 l,q1 gA,q2 gN,qi 4 k,qi 6 xs.length,qi 7 k] [] [false,true,true,true,false,true,false,false,false,false,false] 7:=by
            refine (hA _ _ _ _).2 (VA.step [0,4,6] ?_)
            refine EachV.cons (fun hQ1 hd1=>?_) ?_
            · refine WO.does (does_move rfl) ?_
              refine WO.nil (WX.va ?_ hQ1 hd1)
              exact VA.less _ _ ((hA _ _ _ _).1 (hS47))
            refine EachV.cons (fun hQ1 hd1=>?_) ?_
            · refine WO.does (does_loadF hSA' (i:=0) rfl List.not_mem_nil (vs:=numC (fa x)) rfl rfl) ?_
              refine WO.nil (WX.va ?_ hQ1 hd1)
              exact VA.less _ _ ((hA _ _ _ _).1 (hS62))
            refine EachV.cons (fun hQ1 hd1=>?_) ?_
            · refine WO.does (does_move rfl) ?_
              refine WO.nil (WX.va ?_ hQ1 hd1)
              exact VA.less _ _ ((hA _ _ _ _).1 (hS110))
            exact EachV.nil
          have hS78:A [qs 11 bA oA xs.length cA,qi 12 k,qp 13 bA oA k,qi 16 k,q0 l,q1 gA,q2 gN,qi 4 k,qi 6 xs.length,qi 7 k] [] [false,true,true,true,false,false,true,false,false,false,false] 7:=by
            refine (hA _ _ _ _).2 (VA.step [0,4,5] ?_)
            refine EachV.cons (fun hQ1 hd1=>?_) ?_
            · refine WO.does (does_move rfl) ?_
              refine WO.nil (WX.va ?_ hQ1 hd1)
              exact VA.less _ _ ((hA _ _ _ _).1 (hS79))
            refine EachV.cons (fun hQ1 hd1=>?_) ?_
            · refine WO.does (does_loadF hSA' (i:=0) rfl List.not_mem_nil (vs:=numC (fa x)) rfl rfl) ?_
              refine WO.nil (WX.va ?_ hQ1 hd1)
              exact VA.less _ _ ((hA _ _ _ _).1 (hS94))
            refine EachV.cons (fun hQ1 hd1=>?_) ?_
            · refine WO.does (does_loadF1 hN' (i:=0) rfl List.not_mem_nil rfl) ?_
              refine WO.nil (WX.va ?_ hQ1 hd1)
              exact VA.less _ _ ((hA _ _ _ _).1 (hS110))
            exact EachV.nil
          have hS102:A [qs 11 bA oA xs.length cA,qi 12 k,qs 15 bN oN xs.length cN,qi 16 k,q0 l,q1 gA,q2 gN,qi 4 k,qi 6 xs.length,qi 7 k] [] [false,true,true,false,false,true,true,false,false,false,false] 7:=by
            refine (hA _ _ _ _).2 (VA.step [0,3,7] ?_)
            refine EachV.cons (fun hQ1 hd1=>?_) ?_
            · refine WO.does (does_move rfl) ?_
              refine WO.nil (WX.va ?_ hQ1 hd1)
              exact VA.less _ _ ((hA _ _ _ _).1 (hS103))
            refine EachV.cons (fun hQ1 hd1=>?_) ?_
            · refine WO.does (does_indexSlice rfl rfl hkl rfl) ?_
              refine WO.nil (WX.va ?_ hQ1 hd1)
              exact VA.less _ _ ((hA _ _ _ _).1 (hS110))
            refine EachV.cons (fun hQ1 hd1=>?_) ?_
            · refine WO.does (does_indexSlice rfl rfl hkl rfl) ?_
              refine WO.nil (WX.va ?_ hQ1 hd1)
              exact VA.less _ _ ((hA _ _ _ _).1 (hS230))
            exact EachV.nil
          have hS226:A [qs 11 bA oA xs.length cA,qs 15 bN oN xs.length cN,qi 16 k,qp 17 bN oN k,q0 l,q1 gA,q2 gN,qi 4 k,qi 6 xs.length,qi 7 k] [] [false,true,false,false,false,true,true,true,false,false,false] 7:=by
            refine (hA _ _ _ _).2 (VA.step [0,2,8] ?_)
            refine EachV.cons (fun hQ1 hd1=>?_) ?_
            · refine WO.does (does_move rfl) ?_
              refine WO.nil (WX.va ?_ hQ1 hd1)
              exact VA.less _ _ ((hA _ _ _ _).1 (hS227))
            refine EachV.cons (fun hQ1 hd1=>?_) ?_
            · refine WO.does (does_move rfl) ?_
              refine WO.nil (WX.va ?_ hQ1 hd1)
              exact VA.less _ _ ((hA _ _ _ _).1 (hS230))
            refine EachV.cons (fun hQ1 hd1=>?_) ?_
            · refine WO.does (does_loadF hSN' (i:=0) rfl List.not_mem_nil (vs:=numC (fn x)) rfl rfl) ?_
              refine WO.nil (WX.va ?_ hQ1 hd1)
              exact VA.less _ _ ((hA _ _ _ _).1 (hS482))
            exact EachV.nil
          have hS228:A [qi 12 k,qs 15 bN oN xs.length cN,qi 16 k,qp 17 bN oN k,q0 l,q1 gA,q2 gN,qi 4 k,qi 6 xs.length,qi 7 k] [] [false,false,true,false,false,true,true,true,false,false,false] 7:=by
            refine (hA _ _ _ _).2 (VA.step [0,1,8] ?_)
            refine EachV.cons (fun hQ1 hd1=>?_) ?_
            · refine WO.does (does_move rfl) ?_
              refine WO.nil (WX.va ?_ hQ1 hd1)
              exact VA.less _ _ ((hA _ _ _ _).1 (hS229))
            refine EachV.cons (fun hQ1 hd1=>?_) ?_
            · refine WO.does (does_loadF1 hA' (i:=0) rfl List.not_mem_nil rfl) ?_
              refine WO.nil (WX.va ?_ hQ1 hd1)
              exact VA.less _ _ ((hA _ _ _ _).1 (hS230))
            refine EachV.cons (fun hQ1 hd1=>?_) ?_
            · refine WO.does (does_loadF hSN' (i:=0) rfl List.not_mem_nil (vs:=numC (fn x)) rfl rfl) ?_
              refine WO.nil (WX.va ?_ hQ1 hd1)
              exact VA.less _ _ ((hA _ _ _ _).1 (hS484))
            exact EachV.nil
          have hS480:A [qs 15 bN oN xs.length cN,qi 16 k,qp 17 bN oN k,qn 18 (fn x),q0 l,q1 gA,q2 gN,qi 4 k,qi 6 xs.length,qi 7 k] [] [false,false,false,false,false,true,true,true,true,false,false] 7:=by
            refine (hA _ _ _ _).2 (VA.step [0,1,2] ?_)
            refine EachV.cons (fun hQ1 hd1=>?_) ?_
            · refine WO.does (does_move rfl) ?_
              refine WO.nil (WX.va ?_ hQ1 hd1)
              exact VA.less _ _ ((hA _ _ _ _).1 (hS481))
            refine EachV.cons (fun hQ1 hd1=>?_) ?_
            · refine WO.does (does_loadF1 hA' (i:=0) rfl List.not_mem_nil rfl) ?_
              refine WO.nil (WX.va ?_ hQ1 hd1)
              exact VA.less _ _ ((hA _ _ _ _).1 (hS482))
            refine EachV.cons (fun hQ1 hd1=>?_) ?_
            · refine WO.does (does_move rfl) ?_
              refine WO.nil (WX.va ?_ hQ1 hd1)
              exact VA.less _ _ ((hA _ _ _ _).1 (hS484))
            exact EachV.nil
          have hS7:A [qf l,qs 11 bA oA xs.length cA,qi 12 k,q0 l,q1 gA,q2 gN,qi 4 k,qi 6 xs.length,qi 7 k] [] [true,true,true,false,false,false,false,false,false,false,false] 8:=by
            refine (hA _ _ _ _).2 (VA.step [3,5,6] ?_)
            refine EachV.cons (fun hQ1 hd1=>?_) ?_
            · refine WO.does (does_indexSlice rfl rfl hkl rfl) ?_
              refine WO.nil (WX.va ?_ hQ1 hd1)
              exact VA.less _ _ ((hA _ _ _ _).1 (hS15))
            refine EachV.cons (fun hQ1 hd1=>?_) ?_
            · refine WO.does (does_loadF1 hN' (i:=0) rfl List.not_mem_nil rfl) ?_
              refine WO.nil (WX.va ?_ hQ1 hd1)
              exact VA.less _ _ ((hA _ _ _ _).1 (hS39))
            refine EachV.cons (fun hQ1 hd1=>?_) ?_
            · refine WO.does (does_move rfl) ?_
              refine WO.nil (WX.va ?_ hQ1 hd1)
              exact VA.less _ _ ((hA _ _ _ _).1 (hS71))
            exact EachV.nil
          have hS35:A [qf l,qs 11 bA oA xs.length cA,qs 15 bN oN xs.length cN,q0 l,q1 gA,q2 gN,qi 4 k,qi 6 xs.length,qi 7 k] [] [true,true,false,false,false,true,false,false,false,false,false] 8:=by
            refine (hA _ _ _ _).2 (VA.step [2,6] ?_)
            refine EachV.cons (fun hQ1 hd1=>?_) ?_
            · refine WO.does (does_move rfl) ?_
              refine WO.nil (WX.va ?_ hQ1 hd1)
              exact VA.less _ _ ((hA _ _ _ _).1 (hS39))
            refine EachV.cons (fun hQ1 hd1=>?_) ?_
            · refine WO.does (does_move rfl) ?_
              refine WO.nil (WX.va ?_ hQ1 hd1)
              exact VA.less _ _ ((hA _ _ _ _).1 (hS99))
            exact EachV.nil
          have hS67:A [qf l,qs 11 bA oA xs.length cA,qi 16 k,q0 l,q1 gA,q2 gN,qi 4 k,qi 6 xs.length,qi 7 k] [] [true,true,false,false,false,false,true,false,false,false,false] 8:=by
            refine (hA _ _ _ _).2 (VA.step [2,5] ?_)
            refine EachV.cons (fun hQ1 hd1=>?_) ?_
            · refine WO.does (does_move rfl) ?_
              refine WO.nil (WX.va ?_ hQ1 hd1)
              exact VA.less _ _ ((hA _ _ _ _).1 (hS71))
            refine EachV.cons (fun hQ1 hd1=>?_) ?_
            · refine WO.does (does_loadF1 hN' (i:=0) rfl List.not_mem_nil rfl) ?_
              refine WO.nil (WX.va ?_ hQ1 hd1)
              exact VA.less _ _ ((hA _ _ _ _).1 (hS99))
            exact EachV.nil
          have hS37:A [qf l,qi 12 k,qs 15 bN oN xs.length cN,q0 l,q1 gA,q2 gN,qi 4 k,qi 6 xs.length,qi 7 k] [] [true,false,true,false,false,true,false,false,false,false,false] 8:=by
            refine (hA _ _ _ _).2 (VA.step [1,6] ?_)
            refine EachV.cons (fun hQ1 hd1=>?_) ?_
            · refine WO.does (does_loadF1 hA' (i:=0) rfl List.not_mem_nil rfl) ?_
              refine WO.nil (WX.va ?_ hQ1 hd1)
              exact VA.less _ _ ((hA _ _ _ _).1 (hS39))
            refine EachV.cons (fun hQ1 hd1=>?_) ?_
            · refine WO.does (does_move rfl) ?_
              refine WO.nil (WX.va ?_ hQ1 hd1)
              exact VA.less _ _ ((hA _ _ _ _).1 (hS101))
            exact EachV.nil
          have hS69:A [qf l,qi 12 k,qi 16 k,q0 l,q1 gA,q2 gN,qi 4 k,qi 6 xs.length,qi 7 k] [] [true,false,true,false,false,false,true,false,false,false,false] 8:=by
            refine (hA _ _ _ _).2 (VA.step [1,5] ?_)
            refine EachV.cons (fun hQ1 hd1=>?_) ?_
            · refine WO.does (does_loadF1 hA' (i:=0) rfl List.not_mem_nil rfl) ?_
              refine WO.nil (WX.va ?_ hQ1 hd1)
              exact VA.less _ _ ((hA _ _ _ _).1 (hS71))
            refine EachV.cons (fun hQ1 hd1=>?_) ?_
            · refine WO.does (does_loadF1 hN' (i:=0) rfl List.not_mem_nil rfl) ?_
              refine WO.nil (WX.va ?_ hQ1 hd1)
              exact VA.less _ _ ((hA _ _ _ _).1 (hS101))
            exact EachV.nil
          have hS97:A [qf l,qs 15 bN oN xs.length cN,qi 16 k,q0 l,q1 gA,q2 gN,qi 4 k,qi 6 xs.length,qi 7 k] [] [true,false,false,false,false,true,true,false,false,false,false] 8:=by
            refine (hA _ _ _ _).2 (VA.step [1,2,7] ?_)
            refine EachV.cons (fun hQ1 hd1=>?_) ?_
            · refine WO.does (does_loadF1 hA' (i:=0) rfl List.not_mem_nil rfl) ?_
              refine WO.nil (WX.va ?_ hQ1 hd1)
              exact VA.less _ _ ((hA _ _ _ _).1 (hS99))
            refine EachV.cons (fun hQ1 hd1=>?_) ?_
            · refine WO.does (does_move rfl) ?_
              refine WO.nil (WX.va ?_ hQ1 hd1)
              exact VA.less _ _ ((hA _ _ _ _).1 (hS101))
            refine EachV.cons (fun hQ1 hd1=>?_) ?_
            · refine WO.does (does_indexSlice rfl rfl hkl rfl) ?_
              refine WO.nil (WX.va ?_ hQ1 hd1)
              exact VA.less _ _ ((hA _ _ _ _).1 (hS225))
            exact EachV.nil
          have hS14:A [qs 11 bA oA xs.length cA,qi 12 k,qp 13 bA oA k,q0 l,q1 gA,q2 gN,qi 4 k,qi 6 xs.length,qi 7 k] [] [false,true,true,true,false,false,false,false,false,false,false] 8:=by
            refine (hA _ _ _ _).2 (VA.step [0,4,5,6] ?_)
            refine EachV.cons (fun hQ1 hd1=>?_) ?_
            · refine WO.does (does_move rfl) ?_
              refine WO.nil (WX.va ?_ hQ1 hd1)
              exact VA.less _ _ ((hA _ _ _ _).1 (hS15))
            refine EachV.cons (fun hQ1 hd1=>?_) ?_
            · refine WO.does (does_loadF hSA' (i:=0) rfl List.not_mem_nil (vs:=numC (fa x)) rfl rfl) ?_
              refine WO.nil (WX.va ?_ hQ1 hd1)
              exact VA.less _ _ ((hA _ _ _ _).1 (hS30))
            refine EachV.cons (fun hQ1 hd1=>?_) ?_
            · refine WO.does (does_loadF1 hN' (i:=0) rfl List.not_mem_nil rfl) ?_
              refine WO.nil (WX.va ?_ hQ1 hd1)
              exact VA.less _ _ ((hA _ _ _ _).1 (hS46))
            refine EachV.cons (fun hQ1 hd1=>?_) ?_
            · refine WO.does (does_move rfl) ?_
              refine WO.nil (WX.va ?_ hQ1 hd1)
              exact VA.less _ _ ((hA _ _ _ _).1 (hS78))
            exact EachV.nil
          have hS38:A [qs 11 bA oA xs.length cA,qi 12 k,qs 15 bN oN xs.length cN,q0 l,q1 gA,q2 gN,qi 4 k,qi 6 xs.length,qi 7 k] [] [false,true,true,false,false,true,false,false,false,false,false] 8:=by
            refine (hA _ _ _ _).2 (VA.step [0,3,6] ?_)
            refine EachV.cons (fun hQ1 hd1=>?_) ?_
            · refine WO.does (does_move rfl) ?_
              refine WO.nil (WX.va ?_ hQ1 hd1)
              exact VA.less _ _ ((hA _ _ _ _).1 (hS39))
            refine EachV.cons (fun hQ1 hd1=>?_) ?_
            · refine WO.does (does_indexSlice rfl rfl hkl rfl) ?_
              refine WO.nil (WX.va ?_ hQ1 hd1)
              exact VA.less _ _ ((hA _ _ _ _).1 (hS46))
            refine EachV.cons (fun hQ1 hd1=>?_) ?_
            · refine WO.does (does_move rfl) ?_
              refine WO.nil (WX.va ?_ hQ1 hd1)
              exact VA.less _ _ ((hA _ _ _ _).1 (hS102))
            exact EachV.nil
          have hS70:A [qs 11 bA oA xs.length cA,qi 12 k,qi 16 k,q0 l,q1 gA,q2 gN,qi 4 k,qi 6 xs.length,qi 7 k] [] [false,true,true,false,false,false,true,false,false,false,false] 8:=by
            refine (hA _ _ _ _).2 (VA.step [0,3,5] ?_)
            refine EachV.cons (fun hQ1 hd1=>?_) ?_
            · refine WO.does (does_move rfl) ?_
              refine WO.nil (WX.va ?_ hQ1 hd1)
              exact VA.less _ _ ((hA _ _ _ _).1 (hS71))
            refine EachV.cons (fun hQ1 hd1=>?_) ?_
            · refine WO.does (does_indexSlice rfl rfl hkl rfl) ?_
              refine WO.nil (WX.va ?_ hQ1 hd1)
              exact VA.less _ _ ((hA _ _ _ _).1 (hS78))
            refine EachV.cons (fun hQ1 hd1=>?_) ?_
            · refine WO.does (does_loadF1 hN' (i:=0) rfl List.not_mem_nil rfl) ?_
              refine WO.nil (WX.va ?_ hQ1 hd1)
              exact VA.less _ _ ((hA _ _ _ _).1 (hS102))
            exact EachV.nil
          have hS98:A [qs 11 bA oA xs.length cA,qs 15 bN oN xs.length cN,qi 16 k,q0 l,q1 gA,q2 gN,qi 4 k,qi 6 xs.length,qi 7 k] [] [false,true,false,false,false,true,true,false,false,false,false] 8:=by
            refine (hA _ _ _ _).2 (VA.step [0,2,7] ?_)
            refine EachV.cons (fun hQ1 hd1=>?_) ?_
            · refine WO.does (does_move rfl) ?_
              refine WO.nil (WX.va ?_ hQ1 hd1)
              exact VA.less _ _ ((hA _ _ _ _).1 (hS99))
            refine EachV.cons (fun hQ1 hd1=>?_) ?_
            · refine WO.does (does_move rfl) ?_
              refine WO.nil (WX.va ?_ hQ1 hd1)
              exact VA.less _ _ ((hA _ _ _ _).1 (hS102))
            refine EachV.cons (fun hQ1 hd1=>?_) ?_
            · refine WO.does (does_indexSlice rfl rfl hkl rfl) ?_
              refine WO.nil (WX.va ?_ hQ1 hd1)
              exact VA.less _ _ ((hA _ _ _ _).1 (hS226))
            exact EachV.nil
          have hS100:A [qi 12 k,qs 15 bN oN xs.length cN,qi 16 k,q0 l,q1 gA,q2 gN,qi 4 k,qi 6 xs.length,qi 7 k] [] [false,false,true,false,false,true,true,false,false,false,false] 8:=by
            refine (hA _ _ _ _).2 (VA.step [0,1,7] ?_)
            refine EachV.cons (fun hQ1 hd1=>?_) ?_
            · refine WO.does (does_move rfl) ?_
              refine WO.nil (WX.va ?_ hQ1 hd1)
              exact VA.less _ _ ((hA _ _ _ _).1 (hS101))
            refine EachV.cons (fun hQ1 hd1=>?_) ?_
            · refine WO.does (does_loadF1 hA' (i:=0) rfl List.not_mem_nil rfl) ?_
              refine WO.nil (WX.va ?_ hQ1 hd1)
              exact VA.less _ _ ((hA _ _ _ _).1 (hS102))
            refine EachV.cons (fun hQ1 hd1=>?_) ?_
            · refine WO.does (does_indexSlice rfl rfl hkl rfl) ?_
              refine WO.nil (WX.va ?_ hQ1 hd1)
              exact VA.less _ _ ((hA _ _ _ _).1 (hS228))
            exact EachV.nil
          have hS224:A [qs 15 bN oN xs.length cN,qi 16 k,qp 17 bN oN k,q0 l,q1 gA,q2 gN,qi 4 k,qi 6 xs.length,qi 7 k] [] [false,false,false,false,false,true,true,true,false,false,false] 8:=by
            refine (hA _ _ _ _).2 (VA.step [0,1,2,8] ?_)
            refine EachV.cons (fun hQ1 hd1=>?_) ?_
            · refine WO.does (does_move rfl) ?_
              refine WO.nil (WX.va ?_ hQ1 hd1)
              exact VA.less _ _ ((hA _ _ _ _).1 (hS225))
            refine EachV.cons (fun hQ1 hd1=>?_) ?_
            · refine WO.does (does_loadF1 hA' (i:=0) rfl List.not_mem_nil rfl) ?_
              refine WO.nil (WX.va ?_ hQ1 hd1)
              exact VA.less _ _ ((hA _ _ _ _).1 (hS226))
            refine EachV.cons (fun hQ1 hd1=>?_) ?_
            · refine WO.does (does_move rfl) ?_
              refine WO.nil (WX.va ?_ hQ1 hd1)
              exact VA.less _ _ ((hA _ _ _ _).1 (hS228))
            refine EachV.cons (fun hQ1 hd1=>?_) ?_
            · refine WO.does (does_loadF hSN' (i:=0) rfl List.not_mem_nil (vs:=numC (fn x)) rfl rfl) ?_
              refine WO.nil (WX.va ?_ hQ1 hd1)
              exact VA.less _ _ ((hA _ _ _ _).1 (hS480))
            exact EachV.nil
          have hS3:A [qf l,qs 11 bA oA xs.length cA,q0 l,q1 gA,q2 gN,qi 4 k,qi 6 xs.length,qi 7 k] [] [true,true,false,false,false,false,false,false,false,false,false] 9:=by
            refine (hA _ _ _ _).2 (VA.step [2,5,6] ?_)
            refine EachV.cons (fun hQ1 hd1=>?_) ?_
            · refine WO.does (does_move rfl) ?_
              refine WO.nil (WX.va ?_ hQ1 hd1)
              exact VA.less _ _ ((hA _ _ _ _).1 (hS7))
            refine EachV.cons (fun hQ1 hd1=>?_) ?_
            · refine WO.does (does_loadF1 hN' (i:=0) rfl List.not_mem_nil rfl) ?_
              refine WO.nil (WX.va ?_ hQ1 hd1)
              exact VA.less _ _ ((hA _ _ _ _).1 (hS35))
            refine EachV.cons (fun hQ1 hd1=>?_) ?_
            · refine WO.does (does_move rfl) ?_
              refine WO.nil (WX.va ?_ hQ1 hd1)
              exact VA.less _ _ ((hA _ _ _ _).1 (hS67))
            exact EachV.nil
          have hS5:A [qf l,qi 12 k,q0 l,q1 gA,q2 gN,qi 4 k,qi 6 xs.length,qi 7 k] [] [true,false,true,false,false,false,false,false,false,false,false] 9:=by
            refine (hA _ _ _ _).2 (VA.step [1,5,6] ?_)
            refine EachV.cons (fun hQ1 hd1=>?_) ?_
            · refine WO.does (does_loadF1 hA' (i:=0) rfl List.not_mem_nil rfl) ?_
              refine WO.nil (WX.va ?_ hQ1 hd1)
              exact VA.less _ _ ((hA _ _ _ _).1 (hS7))
            refine EachV.cons (fun hQ1 hd1=>?_) ?_
            · refine WO.does (does_loadF1 hN' (i:=0) rfl List.not_mem_nil rfl) ?_
              refine WO.nil (WX.va ?_ hQ1 hd1)
              exact VA.less _ _ ((hA _ _ _ _).1 (hS37))
            refine EachV.cons (fun hQ1 hd1=>?_) ?_
            · refine WO.does (does_move rfl) ?_
              refine WO.nil (WX.va ?_ hQ1 hd1)
              exact VA.less _ _ ((hA _ _ _ _).1 (hS69))
            exact EachV.nil
          have hS33:A [qf l,qs 15 bN oN xs.length cN,q0 l,q1 gA,q2 gN,qi 4 k,qi 6 xs.length,qi 7 k] [] [true,false,false,false,false,true,false,false,false,false,false] 9:=by
            refine (hA _ _ _ _).2 (VA.step [1,2,6] ?_)
            refine EachV.cons (fun hQ1 hd1=>?_) ?_
            · refine WO.does (does_loadF1 hA' (i:=0) rfl List.not_mem_nil rfl) ?_
              refine WO.nil (WX.va ?_ hQ1 hd1)
              exact VA.less _ _ ((hA _ _ _ _).1 (hS35))
            refine EachV.cons (fun hQ1 hd1=>?_) ?_
            · refine WO.does (does_move rfl) ?_
              refine WO.nil (WX.va ?_ hQ1 hd1)
              exact VA.less _ _ ((hA _ _ _ _).1 (hS37))
            refine EachV.cons (fun hQ1 hd1=>?_) ?_
            · refine WO.does (does_move rfl) ?_
              refine WO.nil (WX.va ?_ hQ1 hd1)
              exact VA.less _ _ ((hA _ _ _ _).1 (hS97))
            exact EachV.nil
          have hS65:A [qf l,qi 16 k,q0 l,q1 gA,q2 gN,qi 4 k,qi 6 xs.length,qi 7 k] [] [true,false,false,false,false,false,true,false,false,false,false] 9:=by
            refine (hA _ _ _ _).2 (VA.step [1,2,5] ?_)
            refine EachV.cons (fun hQ1 hd1=>?_) ?_
            · refine WO.does (does_loadF1 hA' (i:=0) rfl List.not_mem_nil rfl) ?_
              refine WO.nil (WX.va ?_ hQ1 hd1)
              exact VA.less _ _ ((hA _ _ _ _).1 (hS67))
            refine EachV.cons (fun hQ1 hd1=>?_) ?_
            · refine WO.does (does_move rfl) ?_
              refine WO.nil (WX.va ?_ hQ1 hd1)
              exact VA.less _ _ ((hA _ _ _ _).1 (hS69))
            refine EachV.cons (fun hQ1 hd1=>?_) ?_
            · refine WO.does (does_loadF1 hN' (i:=0) rfl List.not_mem_nil rfl) ?_
              refine WO.nil (WX.va ?_ hQ1 hd1)
              exact VA.less _ _ ((hA _ _ _ _).1 (hS97))
            exact EachV.nil
          have hS6:A [qs 11 bA oA xs.length cA,qi 12 k,q0 l,q1 gA,q2 gN,qi 4 k,qi 6 xs.length,qi 7 k] [] [false,true,true,false,false,false,false,false,false,false,false] 9:=by
            refine (hA _ _ _ _).2 (VA.step [0,3,5,6] ?_)
            refine EachV.cons (fun hQ1 hd1=>?_) ?_
            · refine WO.does (does_move rfl) ?_
              refine WO.nil (WX.va ?_ hQ1 hd1)
              exact VA.less _ _ ((hA _ _ _ _).1 (hS7))
            refine EachV.cons (fun hQ1 hd1=>?_) ?_
            · refine WO.does (does_indexSlice rfl rfl hkl rfl) ?_
              refine WO.nil (WX.va ?_ hQ1 hd1)
              exact VA.less _ _ ((hA _ _ _ _).1 (hS14))
            refine EachV.cons (fun hQ1 hd1=>?_) ?_
            · refine WO.does (does_loadF1 hN' (i:=0) rfl List.not_mem_nil rfl) ?_
              refine WO.nil (WX.va ?_ hQ1 hd1)
              exact VA.less _ _ ((hA _ _ _ _).1 (hS38))
            refine EachV.cons (fun hQ1 hd1=>?_) ?_
            · refine WO.does (does_move rfl) ?_
              refine WO.nil (WX.va ?_ hQ1 hd1)
              exact VA.less _ _ ((hA _ _ _ _).1 (hS70))
            exact EachV.nil
          have hS34:A [qs 11 bA oA xs.length cA,qs 15 bN oN xs.length cN,q0 l,q1 gA,q2 gN,qi 4 k,qi 6 xs.length,qi 7 k] [] [false,true,false,false,false,true,false,false,false,false,false] 9:=by
            refine (hA _ _ _ _).2 (VA.step [0,2,6] ?_)
            refine EachV.cons (fun hQ1 hd1=>?_) ?_
            · refine WO.does (does_move rfl) ?_
              refine WO.nil (WX.va ?_ hQ1 hd1)
              exact VA.less _ _ ((hA _ _ _ _).1 (hS35))
            refine EachV.cons (fun hQ1 hd1=>?_) ?_
            · refine WO.does (does_move rfl) ?_
              refine WO.nil (WX.va ?_ hQ1 hd1)
              exact VA.less _ _ ((hA _ _ _ _).1 (hS38))
            refine EachV.cons (fun hQ1 hd1=>?_) ?_
            · refine WO.does (does_move rfl) ?_
              refine WO.nil (WX.va ?_ hQ1 hd1)
              exact VA.less _ _ ((hA _ _ _ _).1 (hS98))
            exact EachV.nil
          have hS66:A [qs 11 bA oA xs.length cA,qi 16 k,q0 l,q1 gA,q2 gN,qi 4 k,qi 6 xs.length,qi 7 k] [] [false,true,false,false,false,false,true,false,false,false,false] 9:=by
            refine (hA _ _ _ _).2 (VA.step [0,2,5] ?_)
            refine EachV.cons (fun hQ1 hd1=>?_) ?_
            · refine WO.does (does_move rfl) ?_
              refine WO.nil (WX.va ?_ hQ1 hd1)
              exact VA.less _ _ ((hA _ _ _ _).1 (hS67))
            refine EachV.cons (fun hQ1 hd1=>?_) ?_
            · refine WO.does (does_move rfl) ?_
              refine WO.nil (WX.va ?_ hQ1 hd1)
              exact VA.less _ _ ((hA _ _ _ _).1 (hS70))
            refine EachV.cons (fun hQ1 hd1=>?_) ?_
            · refine WO.does (does_loadF1 hN' (i:=0) rfl List.not_mem_nil rfl) ?_
              refine WO.nil (WX.va ?_ hQ1 hd1)
              exact VA.less _ _ ((hA _ _ _ _).1 (hS98))
            exact EachV.nil
          have hS36:A [qi 12 k,qs 15 bN oN xs.length cN,q0 l,q1 gA,q2 gN,qi 4 k,qi 6 xs.length,qi 7 k] [] [false,false,true,false,false,true,false,false,false,false,false] 9:=by
            refine (hA _ _ _ _).2 (VA.step [0,1,6] ?_)
            refine EachV.cons (fun hQ1 hd1=>?_) ?_
            · refine WO.does (does_move rfl) ?_
              refine WO.nil (WX.va ?_ hQ1 hd1)
              exact VA.less _ _ ((hA _ _ _ _).1 (hS37))
            refine EachV.cons (fun hQ1 hd1=>?_) ?_
            · refine WO.does (does_loadF1 hA' (i:=0) rfl List.not_mem_nil rfl) ?_
              refine WO.nil (WX.va ?_ hQ1 hd1)
              exact VA.less _ _ ((hA _ _ _ _).1 (hS38))
            refine EachV.cons (fun hQ1 hd1=>?_) ?_
            · refine WO.does (does_move rfl) ?_
              refine WO.nil (WX.va ?_ hQ1 hd1)
              exact VA.less _ _ ((hA _ _ _ _).1 (hS100))
            exact EachV.nil
          have hS68:A [qi 12 k,qi 16 k,q0 l,q1 gA,q2 gN,qi 4 k,qi 6 xs.length,qi 7 k] [] [false,false,true,false,false,false,true,false,false,false,false] 9:=by
            refine (hA _ _ _ _).2 (VA.step [0,1,5] ?_)
            refine EachV.cons (fun hQ1 hd1=>?_) ?_
            · refine WO.does (does_move rfl) ?_
              refine WO.nil (WX.va ?_ hQ1 hd1)
              exact VA.less _ _ ((hA _ _ _ _).1 (hS69))
            refine EachV.cons (fun hQ1 hd1=>?_) ?_
            · refine WO.does (does_loadF1 hA' (i:=0) rfl List.not_mem_nil rfl) ?_
              refine WO.nil (WX.va ?_ hQ1 hd1)
              exact VA.less _ _ ((hA _ _ _ _).1 (hS70))
            refine EachV.cons (fun hQ1 hd1=>?_) ?_
            · refine WO.does (does_loadF1 hN' (i:=0) rfl List.not_mem_nil rfl) ?_
              refine WO.nil (WX.va ?_ hQ1 hd1)
              exact VA.less _ _ ((hA _ _ _ _).1 (hS100))
            exact EachV.nil
          have hS96:A [qs 15 bN oN xs.length cN,qi 16 k,q0 l,q1 gA,q2 gN,qi 4 k,qi 6 xs.length,qi 7 k] [] [false,false,false,false,false,true,true,false,false,false,false] 9:=by
            refine (hA _ _ _ _).2 (VA.step [0,1,2,7] ?_)
            refine EachV.cons (fun hQ1 hd1=>?_) ?_
            · refine WO.does (does_move rfl) ?_
              refine WO.nil (WX.va ?_ hQ1 hd1)
              exact VA.less _ _ ((hA _ _ _ _).1 (hS97))
            refine EachV.cons (fun hQ1 hd1=>?_) ?_
            · refine WO.does (does_loadF1 hA' (i:=0) rfl List.not_mem_nil rfl) ?_
              refine WO.nil (WX.va ?_ hQ1 hd1)
              exact VA.less _ _ ((hA _ _ _ _).1 (hS98))
            refine EachV.cons (fun hQ1 hd1=>?_) ?_
            · refine WO.does (does_move rfl) ?_
              refine WO.nil (WX.va ?_ hQ1 hd1)
              exact VA.less _ _ ((hA _ _ _ _).1 (hS100))
            refine EachV.cons (fun hQ1 hd1=>?_) ?_
            · refine WO.does (does_indexSlice rfl rfl hkl rfl) ?_
              refine WO.nil (WX.va ?_ hQ1 hd1)
              exact VA.less _ _ ((hA _ _ _ _).1 (hS224))
            exact EachV.nil
          have hS1:A [qf l,q0 l,q1 gA,q2 gN,qi 4 k,qi 6 xs.length,qi 7 k] [] [true,false,false,false,false,false,false,false,false,false,false] 10:=by
            refine (hA _ _ _ _).2 (VA.step [1,2,5,6] ?_)
            refine EachV.cons (fun hQ1 hd1=>?_) ?_
            · refine WO.does (does_loadF1 hA' (i:=0) rfl List.not_mem_nil rfl) ?_
              refine WO.nil (WX.va ?_ hQ1 hd1)
              exact VA.less _ _ ((hA _ _ _ _).1 (hS3))
            refine EachV.cons (fun hQ1 hd1=>?_) ?_
            · refine WO.does (does_move rfl) ?_
              refine WO.nil (WX.va ?_ hQ1 hd1)
              exact VA.less _ _ ((hA _ _ _ _).1 (hS5))
            refine EachV.cons (fun hQ1 hd1=>?_) ?_
            · refine WO.does (does_loadF1 hN' (i:=0) rfl List.not_mem_nil rfl) ?_
              refine WO.nil (WX.va ?_ hQ1 hd1)
              exact VA.less _ _ ((hA _ _ _ _).1 (hS33))
            refine EachV.cons (fun hQ1 hd1=>?_) ?_
            · refine WO.does (does_move rfl) ?_
              refine WO.nil (WX.va ?_ hQ1 hd1)
              exact VA.less _ _ ((hA _ _ _ _).1 (hS65))
            exact EachV.nil
          have hS2:A [qs 11 bA oA xs.length cA,q0 l,q1 gA,q2 gN,qi 4 k,qi 6 xs.length,qi 7 k] [] [false,true,false,false,false,false,false,false,false,false,false] 10:=by
            refine (hA _ _ _ _).2 (VA.step [0,2,5,6] ?_)
            refine EachV.cons (fun hQ1 hd1=>?_) ?_
            · refine WO.does (does_move rfl) ?_
              refine WO.nil (WX.va ?_ hQ1 hd1)
              exact VA.less _ _ ((hA _ _ _ _).1 (hS3))
            refine EachV.cons (fun hQ1 hd1=>?_) ?_
            · refine WO.does (does_move rfl) ?_
              refine WO.nil (WX.va ?_ hQ1 hd1)
              exact VA.less _ _ ((hA _ _ _ _).1 (hS6))
            refine EachV.cons (fun hQ1 hd1=>?_) ?_
            · refine WO.does (does_loadF1 hN' (i:=0) rfl List.not_mem_nil rfl) ?_
              refine WO.nil (WX.va ?_ hQ1 hd1)
              exact VA.less _ _ ((hA _ _ _ _).1 (hS34))
            refine EachV.cons (fun hQ1 hd1=>?_) ?_
            · refine WO.does (does_move rfl) ?_
              refine WO.nil (WX.va ?_ hQ1 hd1)
              exact VA.less _ _ ((hA _ _ _ _).1 (hS66))
            exact EachV.nil
          have hS4:A [qi 12 k,q0 l,q1 gA,q2 gN,qi 4 k,qi 6 xs.length,qi 7 k] [] [false,false,true,false,false,false,false,false,false,false,false] 10:=by
            refine (hA _ _ _ _).2 (VA.step [0,1,5,6] ?_)
            refine EachV.cons (fun hQ1 hd1=>?_) ?_
            · refine WO.does (does_move rfl) ?_
              refine WO.nil (WX.va ?_ hQ1 hd1)
              exact VA.less _ _ ((hA _ _ _ _).1 (hS5))
            refine EachV.cons (fun hQ1 hd1=>?_) ?_
            · refine WO.does (does_loadF1 hA' (i:=0) rfl List.not_mem_nil rfl) ?_
              refine WO.nil (WX.va ?_ hQ1 hd1)
              exact VA.less _ _ ((hA _ _ _ _).1 (hS6))
            refine EachV.cons (fun hQ1 hd1=>?_) ?_
            · refine WO.does (does_loadF1 hN' (i:=0) rfl List.not_mem_nil rfl) ?_
              refine WO.nil (WX.va ?_ hQ1 hd1)
              exact VA.less _ _ ((hA _ _ _ _).1 (hS36))
            refine EachV.cons (fun hQ1 hd1=>?_) ?_
            · refine WO.does (does_move rfl) ?_
              refine WO.nil (WX.va ?_ hQ1 hd1)
              exact VA.less _ _ ((hA _ _ _ _).1 (hS68))
            exact EachV.nil
          have hS32:A [qs 15 bN oN xs.length cN,q0 l,q1 gA,q2 gN,qi 4 k,qi 6 xs.length,qi 7 k] [] [false,false,false,false,false,true,false,false,false,false,false] 10:=by
            refine (hA _ _ _ _).2 (VA.step [0,1,2,6] ?_)
            refine EachV.cons (fun hQ1 hd1=>?_) ?_
            · refine WO.does (does_move rfl) ?_
              refine WO.nil (WX.va ?_ hQ1 hd1)
              exact VA.less _ _ ((hA _ _ _ _).1 (hS33))
            refine EachV.cons (fun hQ1 hd1=>?_) ?_
            · refine WO.does (does_loadF1 hA' (i:=0) rfl List.not_mem_nil rfl) ?_
              refine WO.nil (WX.va ?_ hQ1 hd1)
              exact VA.less _ _ ((hA _ _ _ _).1 (hS34))
            refine EachV.cons (fun hQ1 hd1=>?_) ?_
            · refine WO.does (does_move rfl) ?_
              refine WO.nil (WX.va ?_ hQ1 hd1)
              exact VA.less _ _ ((hA _ _ _ _).1 (hS36))
            refine EachV.cons (fun hQ1 hd1=>?_) ?_
            · refine WO.does (does_move rfl) ?_
              refine WO.nil (WX.va ?_ hQ1 hd1)
              exact VA.less _ _ ((hA _ _ _ _).1 (hS96))
            exact EachV.nil
          have hS64:A [qi 16 k,q0 l,q1 gA,q2 gN,qi 4 k,qi 6 xs.length,qi 7 k] [] [false,false,false,false,false,false,true,false,false,false,false] 10:=by
            refine (hA _ _ _ _).2 (VA.step [0,1,2,5] ?_)
            refine EachV.cons (fun hQ1 hd1=>?_) ?_
            · refine WO.does (does_move rfl) ?_
              refine WO.nil (WX.va ?_ hQ1 hd1)
              exact VA.less _ _ ((hA _ _ _ _).1 (hS65))
            refine EachV.cons (fun hQ1 hd1=>?_) ?_
            · refine WO.does (does_loadF1 hA' (i:=0) rfl List.not_mem_nil rfl) ?_
              refine WO.nil (WX.va ?_ hQ1 hd1)
              exact VA.less _ _ ((hA _ _ _ _).1 (hS66))
            refine EachV.cons (fun hQ1 hd1=>?_) ?_
            · refine WO.does (does_move rfl) ?_
              refine WO.nil (WX.va ?_ hQ1 hd1)
              exact VA.less _ _ ((hA _ _ _ _).1 (hS68))
            refine EachV.cons (fun hQ1 hd1=>?_) ?_
            · refine WO.does (does_loadF1 hN' (i:=0) rfl List.not_mem_nil rfl) ?_
              refine WO.nil (WX.va ?_ hQ1 hd1)
              exact VA.less _ _ ((hA _ _ _ _).1 (hS96))
            exact EachV.nil
          have hS0:A [q0 l,q1 gA,q2 gN,qi 4 k,qi 6 xs.length,qi 7 k] [] [false,false,false,false,false,false,false,false,false,false,false] 11:=by
            refine (hA _ _ _ _).2 (VA.step [0,1,2,5,6] ?_)
            refine EachV.cons (fun hQ1 hd1=>?_) ?_
            · refine WO.does (does_move rfl) ?_
              refine WO.nil (WX.va ?_ hQ1 hd1)
              exact VA.less _ _ ((hA _ _ _ _).1 (hS1))
            refine EachV.cons (fun hQ1 hd1=>?_) ?_
            · refine WO.does (does_loadF1 hA' (i:=0) rfl List.not_mem_nil rfl) ?_
              refine WO.nil (WX.va ?_ hQ1 hd1)
              exact VA.less _ _ ((hA _ _ _ _).1 (hS2))
            refine EachV.cons (fun hQ1 hd1=>?_) ?_
            · refine WO.does (does_move rfl) ?_
              refine WO.nil (WX.va ?_ hQ1 hd1)
              exact VA.less _ _ ((hA _ _ _ _).1 (hS4))
            refine EachV.cons (fun hQ1 hd1=>?_) ?_
            · refine WO.does (does_loadF1 hN' (i:=0) rfl List.not_mem_nil rfl) ?_
              refine WO.nil (WX.va ?_ hQ1 hd1)
              exact VA.less _ _ ((hA _ _ _ _).1 (hS32))
            refine EachV.cons (fun hQ1 hd1=>?_) ?_
            · refine WO.does (does_move rfl) ?_
              refine WO.nil (WX.va ?_ hQ1 hd1)
              exact VA.less _ _ ((hA _ _ _ _).1 (hS64))
            exact EachV.nil
          exact (hA _ _ _ _).2 (VA.less _ _ ((hA _ _ _ _).1 hS0))
        exact hC
      refine VA.yield (i:=9) (S':=[true,true,true,true,true,true,true,true,true,true,false]) (vs:=[numV (fa x),numV (fn x)]) rfl rfl (fun w2 h2=>hY (xs.take k) x w2 (hJo _ _ _ hJ h2.mod) (by rw[List.length_take];omega)) (fun w2 e w3 h2 hR=>?_)
      have hKw:KeepB [gA,gN,bA,bN] W w2:=hKp.trans (KeepB.of_mod h2.mod (fun j hj=>⟨hlw j hj,by simp⟩))
      have hs2:=Nat.le_trans hsz h2.mod.size
      rcases hR with ⟨rfl,hR,hK3,hs3⟩|⟨rfl,hR⟩
      · refine⟨true,rfl,?_⟩
        rw[hx'] at hR
        refine VA.step (S:=[true,true,true,true,true,true,true,true,true,true,false]) (f:=0) [10] ?_;refine EachV.cons (fun hQ1 hd1=>?_) EachV.nil
        refine WO.auto (k:=?_)
        refine WO.nil (WX.va (VA.done (S:=List.replicate 11 true) ?_) hQ1 hd1)
        refine WX.seqI (WI.condF rfl ?_)
        refine WI.skip (WX.blk_normal (WX.seqI ?_))
        refine WI.region ?_ (by exact hQ)
        have e1:IntKind.i64.wrap ((k:Int)+1)=((k+1:Nat):Int):=i64_in' (by omega) (by omega) (by omega)
        refine WO.does (does_add rfl rfl e1) ?_
        refine WO.auto (k:=?_)
        refine WO.nil ?_
        refine WX.metW (k+1) (by omega) (by repeat (first|exact Kle.nil|refine Kle.cons rfl rfl ?_)) (fun w4 h4=>⟨by omega,hJo _ _ _ hR h4.mod,?_,Nat.le_trans hs2 (Nat.le_trans hs3 h4.mod.size)⟩)
        exact (hKw.trans hK3).trans (KeepB.of_mod h4.mod (fun j hj=>⟨Nat.lt_of_lt_of_le (hlt j hj) (Nat.le_trans hs2 hs3),by simp⟩))
      · refine⟨false,rfl,?_⟩
        rw[hx'] at hR
        refine VA.step (S:=[true,true,true,true,true,true,true,true,true,true,false]) (f:=0) [10] ?_;refine EachV.cons (fun hQ1 hd1=>?_) EachV.nil
        refine WO.auto (k:=?_)
        refine WO.nil (WX.va (VA.done (S:=List.replicate 11 true) ?_) hQ1 hd1)
        refine WX.seqI (WI.condT rfl ?_)
        refine WI.ret ?_
        refine WX.blk_ret (WX.then_ret (WX.then_ret (WX.blk_ret ?_)))
        intro a w4 g1 g2 g3 g4
        exact bodyPost_ret (results_none rfl _ _ _) g1 ⟨⟨_,rfl⟩,.inr ⟨_,trivial,hJxo _ _ _ hR g4.mod⟩⟩
    · refine WI.condF (show some (Value.bool (decide ((k:Int)<(xs.length:Int))))=some (Value.bool false) by rw[decide_eq_false (by omega)]) ?_
      refine WI.exit (WX.then_exit (WX.then_exit (WX.blk_exit ?_)))
      intro a w4 g1 g2 g3 g4
      obtain rfl:k=xs.length:=by omega
      refine bodyPost_end (results_none rfl _ _ _) g1 ⟨⟨_,rfl⟩,.inl ⟨xs,rfl,?_⟩⟩
      have:=hJo _ _ _ hJ g4.mod
      rwa [List.take_length] at this
end Sx
end Go.Proofs.YtiiacjladnljhaaGreatDoor
