/- Part 44 of the proof. -/
import Derived.Test.YtegjemedanccoaaGreatDoorM41
import Derived.Test.YtegjemedanccoaaGreatDoorM43
set_option linter.unusedSimpArgs false
set_option linter.unusedVariables false
set_option maxHeartbeats 8000000
namespace Go.Proofs.YtegjemedanccoaaGreatDoor
section
open Go Go.RowKit Go.BigFrame
namespace Sx
attribute [local irreducible] DQ DQS WC WO wd
def uF (e:Int):Value:=.iface 147 (.agg #[.int .i64 e])
theorem se (x:Nat):Fn Tryz.prog 91 [ze x,.int .i64 0] Tr (Is (ze x)):=by
 refine Fn.enter Tryz.func91 rfl rfl rfl ?_;intro w hw
 repeat (first|refine WO.does (zK rfl rfl rfl) ?_|refine Ta ?_|(refine Tm ?_;intro _)|refine Tc ?_|exact Tz)
theorem tP:Tryz.prog.concrete 147=true:=by kernel_rfl
theorem eo (x:Nat) (e:Int) (he:e≠0):FnE Tryz.prog 91 [ze x,.int .i64 e] [] Tr (adB (uF e)):=by
 refine FnE.enter Tryz.func91 rfl rfl rfl ?_;intro w hw
 repeat (first|refine WO.does (yk rfl rfl he) ?_|refine WO.does (vm tP rfl) ?_|refine Ta ?_|(refine Tm ?_;intro _)|refine Tc ?_|exact Tz)
 refine WO.panics rfl ?_;intro a w2 h1 h2 h3 h4;exact⟨h1,(by intro e;cases e),[],Lle.nil.me h4,rfl⟩
theorem bp (i k:Int):Fn Tryz.prog 128 [.int .i64 i,.int .i64 k] Tr (Ex (fun s=>.func (.func 151) #[] #[pt (s 0),pt (s 1)]) (fun s=>[⟨s 0,3,[.int .i64 k]⟩,⟨s 1,3,[.int .i64 i]⟩]) (fun _=>True)):=by
 refine Fn.enter Tryz.func128 rfl rfl rfl ?_;intro w hw
 repeat (first|refine Ta ?_|(refine Tm ?_;intro _)|refine WO.does (zO rfl rfl) ?_|refine Tc ?_|exact Tz)
 rename_i g1 g2;exact WX.ret1 rfl (zr rfl) [⟨g2,3,[.int .i64 k]⟩,⟨g1,3,[.int .i64 i]⟩] (by repeat (first|exact Lle.nil|refine Lle.c ?_)) ⟨fun j=>if j=0 then g2 else g1,rfl,rfl,trivial⟩
theorem ez (m i k gN gI l:Nat) (hn:k≤7) (hi:i≤7) (J:List Nat→World→Prop) (E:List PanicEntry→World→Prop) (hJo:∀ s A B,J s A→Mod [] A B→J s B)
  (hY:∀ pre x W,x∈oth k i→J pre W→pre.length<(oth k i).length→YieldAt (fw none) (m - 1) Tryz.prog l #[.int .i64 ((x:Nat):Int)] W fun e W'=>(e=.returned (.bool true)∧J (pre++[x]) W'∧KpB [gN,gI] W W')∨(∃ ch,e=.panicked ch∧E ch W'))
  (W:World) (hN:Seg W gN 0 [.int .i64 (k:Int)]) (hI:Seg W gI 0 [.int .i64 (i:Int)]) (hlt:∀ j∈[gN,gI],j<W.heap.size) (h0:J [] W) :
  CallsIn (fw none) m Tryz.prog 151 [.func (.yield l) #[] #[],pt gN,pt gI].toArray W fun e W'=>((∃ v,e=.returned v)∧∃ xs,xs=oth k i∧J xs W')∨(∃ ch,e=.panicked ch∧E ch W'):=by
 refine ub (n:=19) Tryz.func151 rfl rfl rfl ?_;have hQ:¬ LetsOut (bodyPost Tryz.prog Tryz.f151 fun e W'=>((∃ v,e=.returned v)∧∃ xs,xs=oth k i∧J xs W')∨(∃ ch,e=.panicked ch∧E ch W')):=by
  rintro ⟨a,w,⟨⟨v,h⟩,_⟩|⟨ch,h,_⟩⟩<;>cases h
 refine WI.seq (WI.region ?_ (by exact hQ));refine WO.auto (k:=?_);refine WO.nil (WX.seqI ?_);refine WI.block ?_;refine WI.loopW (σ:=Nat) (fun j=>[(0,.func (.yield l) #[] #[]),(1,pt gN),(2,pt gI),(4,.int .i64 ((j+1:Nat):Int))]) (fun j w=>j≤k∧J (fZ j i) w∧KpB [gN,gI] W w) (fun j=>k - j) 0 (fun w hw=>⟨Nat.zero_le _,hJo _ W w h0 hw.mod,yl.of_mod hw.mod (fun j hj=>⟨hlt j hj,by simp⟩),hw.mod.size⟩) ?_ ?_
 ·repeat (first|exact Kle.nil|refine Kle.cons rfl rfl ?_)
 ·rintro j w1 ⟨hk,hJ,hKp⟩;have hlw:∀ g∈[gN,gI],g<w1.heap.size:=fun g hg=>Nat.lt_of_lt_of_le (hlt g hg) hKp.2;have hN':=hKp.1.seg (b:=gN) (by simp) hN;have hI':=hKp.1.seg (b:=gI) (by simp) hI;have hadd:IntKind.i64.wrap (((j+1:Nat):Int)+1)=((j+1+1:Nat):Int):=zm (by omega) (by omega) (by omega);have hKm:∀ {gs:List Nat} {A B:World},Mod [] A B→(∀ g∈[gN,gI],g<A.heap.size)→KpB [gN,gI] A B:=fun hm h=>⟨yl.of_mod hm (fun g hg=>⟨h g hg,by simp⟩),hm.size⟩;refine WI.seq (WI.seq (WI.region ?_ (by exact hQ)));refine WO.auto (k:=?_);refine WO.does (zg (hs:=hN')) ?_
  by_cases hkl:j<k
  ·refine WO.does (rI rfl rfl (by omega)) ?_;refine WO.nil (WX.seqI ?_);refine WI.condT rfl ?_;refine WI.skip (WX.seqI ?_);refine WI.seq ?_;refine WI.block ?_
   by_cases hji:j+1=i
   ·have hJ2:J (fZ (j+1) i) w1:=by rw[tH,if_pos hji,List.append_nil];exact hJ
    refine WI.seq (WI.region ?_ (by exact hQ));refine WO.auto (k:=?_);refine WO.does (zg (hs:=hI')) ?_;refine WO.does (zK rfl rfl (by rw[hji])) ?_
    repeat (first|refine Tw ?_|(refine Tm ?_;intro _)|exact Tz)
    refine WX.seqI ?_;refine WI.condF rfl ?_;refine WI.skip (WX.blk_normal (WX.seqI ?_));refine WI.region ?_ (by exact hQ);refine WO.auto (k:=?_);refine WO.does (zi rfl rfl hadd) ?_;refine WO.auto (k:=?_);refine WO.nil ?_;exact WX.metW (j+1) (by show k - (j+1)<k - j;omega) (by repeat (first|exact Kle.nil|refine Kle.cons rfl rfl ?_)) (fun w4 h4=>⟨by omega,hJo _ _ _ hJ2 h4.mod,hKp.trans (hKm (gs:=[]) h4.mod hlw)⟩)
   ·have hlen:=aau (n:=k) hkl hji;refine WI.seq (WI.regionY 6 (by exact hQ) ?_);simp only[List.take_succ_cons,List.take_zero,List.drop_succ_cons,List.drop_zero];refine WO.auto (k:=?_);refine WO.does (zg (hs:=hI')) ?_;refine WO.does (yk rfl rfl (by omega)) ?_
    repeat (first|refine Tw ?_|(refine Tm ?_;intro _)|exact Tz)
    refine WX.woi ?_;refine WOI.yieldP (vs:=[.int .i64 ((j+1:Nat):Int)]) rfl rfl (fun w2 h2=>hY (fZ j i) (j+1) w2 (mO.2 ⟨by omega,by omega,hji⟩) (hJo _ _ _ hJ h2.mod) hlen) (fun w2 e w3 h2 hR=>?_);have hKw:KpB [gN,gI] W w2:=hKp.trans (hKm (gs:=[]) h2.mod hlw)
    rcases hR with ⟨rfl,hR,hK3⟩|⟨ch,rfl,hE⟩
    ·refine .inl ⟨true,rfl,?_⟩;have hJ2:J (fZ (j+1) i) w3:=by rw[tH,if_neg hji];exact hR
     have hKz:=hKw.trans hK3;have hlz:∀ g∈[gN,gI],g<w3.heap.size:=fun g hg=>Nat.lt_of_lt_of_le (hlt g hg) hKz.2;refine WOI.of (by exact hQ) ?_
     repeat (first|refine Tw ?_|(refine Tm ?_;intro _)|exact Tz)
     refine WX.seqI ?_;refine WI.condF rfl ?_;refine WI.skip (WX.blk_normal (WX.seqI ?_));refine WI.region ?_ (by exact hQ);refine WO.auto (k:=?_);refine WO.does (zi rfl rfl hadd) ?_;refine WO.auto (k:=?_);refine WO.nil ?_;exact WX.metW (j+1) (by show k - (j+1)<k - j;omega) (by repeat (first|exact Kle.nil|refine Kle.cons rfl rfl ?_)) (fun w4 h4=>⟨by omega,hJo _ _ _ hJ2 h4.mod,hKz.trans (hKm (gs:=[]) h4.mod hlz)⟩)
    ·exact .inr ⟨ch,rfl,fun a ha=>⟨ha,.inr ⟨ch,rfl,hE⟩⟩⟩
  ·refine WO.does (oS rfl rfl (by omega)) ?_;refine WO.nil (WX.seqI ?_);refine WI.condF rfl ?_;refine WI.exit (WX.then_exit (WX.then_exit (WX.blk_exit ?_)));intro a w4 g1 g2 g3 g4;obtain rfl:j=k:=by omega
   exact bodyPost_end (results_none rfl _ _ _) g1 (.inl ⟨⟨_,rfl⟩,_,lE,hJo _ _ _ hJ g4.mod⟩)
abbrev OtT (n i:Nat):Type:={ x:Nat // x∈oth n i }
theorem ia (m i k gN gI:Nat) (hn:k≤7) (hi:i≤7) (w:World) (hN:Seg w gN 0 [.int .i64 (k:Int)]) (hI:Seg w gI 0 [.int .i64 (i:Int)]) (hlt:∀ j∈[gN,gI],j<w.heap.size) :
  adv m Tryz.prog 151 #[pt gN,pt gI] (fun x:OtT k i=>#[.int .i64 (x.1:Int)]) (KpB [gN,gI]) (fun xs=>xs.map (fun x=>x.1)=oth k i) (oth k i).length w:=fun l J E W hW hJ hY h0=>by
 have hk:yl [gN,gI] w W:=fun j hj=>hW.block j (hlt j hj)
 refine (ez m i k gN gI l hn hi (fun s W=>∃ xs:List (OtT k i),xs.map (fun x=>x.1)=s∧J xs W) E
  (fun s A B ⟨xs,e,h⟩ hm=>⟨xs,e,hJ xs A B none h ⟨hm.os,hm.tape,hm.output,hm.size,fun j hj _=>hm.block j hj (by simp)⟩ (by simp)⟩)
  (fun pre x W1 hx ⟨xs,e,h⟩ hl=>?_) W (hk.seg (by simp) hN) (hk.seg (by simp) hI) (fun j hj=>Nat.lt_of_lt_of_le (hlt j hj) hW.size) ⟨[],rfl,h0⟩).mono ?_
 ·obtain⟨fn,tmps,asg,body,h1,h2⟩:=hY xs ⟨x,hx⟩ W1 h (by rw[← e,List.length_map] at hl;exact hl);refine⟨fn,tmps,asg,body,h1,h2.mono ?_⟩;rintro e' W' (⟨g1,g2,g3⟩|g)
  ·exact .inl ⟨g1,⟨xs++[⟨x,hx⟩],by rw[List.map_append,e];rfl,g2⟩,g3⟩
  ·exact .inr g
 ·rintro e' W' (⟨g1,xs,g2,ys,g3,g4⟩|g)
  ·exact .inl ⟨g1,ys,g3.trans g2,g4⟩
  ·exact .inr g
end Sx
end
section
open Go Go.RowKit Go.BigFrame
namespace Sx
attribute [local irreducible] DQ DQS WC WO WX wd
theorem oc (v:Value) (w:World):(binOp .eql 20 (.iface 147 v) .nilIface).run Tryz.prog w=.ok (.bool false) w:=by kernel_rfl
theorem mQ (w:World):(binOp .eql 20 .nilIface .nilIface).run Tryz.prog w=.ok (.bool true) w:=by kernel_rfl
theorem rG (x y:Operand) (v:Value) (w:World):(eqGuard .eql 20 x y (.iface 147 v) .nilIface).run Tryz.prog w=.ok () w:=by kernel_rfl
theorem pH (w:World):(eqGuard .eql 20 (.tmp 5) (.const .nilIface) .nilIface .nilIface).run Tryz.prog w=.ok () w:=by kernel_rfl
theorem mP (v:Value) (w:World):(Instr.typeAssert (.iface 147 v) 20 147 true).run Tryz.prog w=.ok (.tuple #[v,.bool true]) w:=by kernel_rfl
theorem cj (g2 g3:Nat) (e x y:Int) (w:World) (h2:(⟨g2,3,[.int .i64 x]⟩ : Ent).ok w) (h3:(⟨g3,45,[.int .i64 y]⟩ : Ent).ok w) (hne:g2≠g3) :
  CallsD Tryz.prog 126 [pt g2,pt g3].toArray (.panicking [{ v:=uF e,recovered:=false }]) w
   (fun en u' w'=>en=.returned (.tuple #[])∧u'=.panicking [{ v:=uF e,recovered:=true }]∧Me w [g2,g3] [⟨g2,3,[.int .i64 1]⟩,⟨g3,45,[.int .i64 e]⟩] w'):=by
 have hme:Me w [g2,g3] [⟨g2,3,[.int .i64 x]⟩,⟨g3,45,[.int .i64 y]⟩] w:=⟨.refl _ _,by simp only[List.mem_cons,List.not_mem_nil,or_false];rintro e (rfl|rfl)<;>assumption,by simp,by simpa using hne⟩;refine qY (u':=.panicking [{ v:=uF e,recovered:=true }]) (v:=uF e) (n:=13) Tryz.func126 rfl rfl rfl rfl (fun c0 cs hm=>.inl (by simp[recoverD,hm])) hme (fun c0 cs=>?_);unfold uF
 repeat (first|refine WO.does (nk rfl rfl (oc _) (rG _ _ _)) ?_|refine WO.does (mB rfl (mP _)) ?_|refine Ta ?_|(refine Tm ?_;intro _)|refine Tc ?_|exact Tz)
 rename_i gX;refine WC.mains [2,3] [(0,.pointer (some ⟨gX,0,none⟩)),(1,.int .i64 e)] (by decide) ?_;refine WM.with [⟨gX,147,[.int .i64 e]⟩] (by kernel_rfl) (Tls.auto (Tls.auto Tls.nil)) (fun hc hT=>?_)
 refine WM.step (m:=2) rfl rfl hc hT ?_;refine WO.stores zD ?_;refine WO.nil (WX.wm [] ?_);refine WM.step (m:=3) rfl rfl hc hT ?_;refine WO.stores zD ?_;refine WO.nil (WX.wm [] ?_);refine WM.fin (m:=3) hc rfl rfl (by rfl) ?_;clear hc hT;refine WX.blk_normal (WX.un (fun a w5 k1 k2 k3 k4=>?_));exact⟨k1,_,rfl,_,results_none rfl _ _ _,rfl,rfl,Lle.me (by repeat (first|exact Lle.nil|refine Lle.c ?_)) k4⟩
theorem abZ (g2 g3:Nat) (x y:Int) (w:World) (h2:(⟨g2,3,[.int .i64 x]⟩ : Ent).ok w) (h3:(⟨g3,45,[.int .i64 y]⟩ : Ent).ok w) (hne:g2≠g3) :
  CallsD Tryz.prog 126 [pt g2,pt g3].toArray .returning w
   (fun en u' w'=>en=.returned (.tuple #[])∧u'=.returning∧Me w [g2,g3] [⟨g2,3,[.int .i64 x]⟩,⟨g3,45,[.int .i64 y]⟩] w'):=by
 have hme:Me w [g2,g3] [⟨g2,3,[.int .i64 x]⟩,⟨g3,45,[.int .i64 y]⟩] w:=⟨.refl _ _,by simp only[List.mem_cons,List.not_mem_nil,or_false];rintro e (rfl|rfl)<;>assumption,by simp,by simpa using hne⟩;refine qY (u':=.returning) (v:=.nilIface) (n:=13) Tryz.func126 rfl rfl rfl rfl (fun c0 cs hm=>.inr ⟨by simp[recoverD,hm],rfl,rfl⟩) hme (fun c0 cs=>?_)
 repeat (first|refine WO.does (o7 rfl rfl mQ pH) ?_|refine Ta ?_|(refine Tm ?_;intro _)|refine Tc ?_|exact Tz)
 refine WX.un (fun a w5 k1 k2 k3 k4=>?_);exact⟨k1,_,rfl,_,results_none rfl _ _ _,rfl,rfl,k4⟩
theorem pg (g2 g3:Nat) (w:World):(invoke (.fn (.func 126) #[pt g2,pt g3]) #[]).run Tryz.prog w=.ok (.enter 126 [pt g2,pt g3].toArray) w:=by kernel_rfl
def StP (post:Ending→List Ent→Prop):Value→List Ent→Prop:=fun v N=>(v=.tuple #[.int .i64 0,.int .i64 0]∧∃ u,post (.returned u) N)∨(∃ k,v=.tuple #[.int .i64 1,.int .i64 k]∧post (.panicked [{ v:=uF k,recovered:=false }]) N)
theorem nO {f:FuncId} [Cal Tryz.prog f] {caps:List Value} {M:List Ent} {Rq:World→Prop} {post:Ending→List Ent→Prop} (hc:FnE Tryz.prog f caps M Rq post) (hst:∀ w w',Rq w→Mod (M.map Ent.g) w w'→Rq w')
  (hp:∀ e N,post e N→(∃ v,e=.returned v)∨(∃ k,e=.panicked [{ v:=uF k,recovered:=false }])) :
  FnL Tryz.prog 89 [.func (.func f) #[] caps.toArray] M Rq (StP post):=by
 intro w hok hnd hw;refine calls_of_wp_defers Tryz.func89 rfl ?_;obtain⟨a,ha⟩ : ∃ a:Act,a = { tmps:=[Value.func (.func f) #[] caps.toArray].toArray++Array.replicate (Tryz.f89.ntmps - [Value.func (.func f) #[] caps.toArray].toArray.size) undef,defers:=[] }:=⟨_,rfl⟩;have a1:a.defers=[]:=by rw[ha]
 have a2:a.tmps.size=7:=by rw[ha];rfl
 have a3:Kn [(0,.func (.func f) #[] caps.toArray)] a:=fun t x hv=>by
  have:=qS (args:=[Value.func (.func f) #[] caps.toArray]) (n:=7) (by simp) t x hv;rw[ha];exact this
 rw[← ha];clear ha;have a4:Me w (M.map Ent.g) M w:=⟨.refl _ _,hok,fun e he=>.inr (List.mem_map.2 ⟨e,he,rfl⟩),hnd⟩
 suffices HH:WC Tryz.prog w (M.map Ent.g) 7 _ (bodyPostD Tryz.prog Tryz.f89 (abi w (M.map Ent.g) (StP post))) [(0,.func (.func f) #[] caps.toArray)] M from HH.app a1 a2 a3 a4
 clear a1 a2 a3 a4
 repeat (first|refine Ta ?_|(refine Tm ?_;intro _)|refine WO.does (zO rfl rfl) ?_|refine Tc ?_|exact Tz)
 rename_i g2 g3;have hgs:∀ {N:List Ent} {A B:Ent} {w1:World},Me w (M.map Ent.g) (A::B::N) w1→A.g≠B.g:=fun h=>by have:=h.nodup;simp at this;exact fun e=>this.1.1 e
 refine WO.defers rfl (fun a w1 d1 d2 d3 d4=>?_);show Code.wp _ _ _ _ _;refine WO.tail (w0:=w) (gs:=M.map Ent.g) (n:=7) (K:=[(3,pt g3),(2,pt g2),(0,.func (.func f) #[] caps.toArray)]) d1 d2 (Kle.kn d3 (by repeat (first|exact Kle.nil|refine Kle.cons rfl rfl ?_))) d4 ?_
 have hfin:∀ (N:List Ent) (x y:Int) (a:Act) (w4:World),Kn [(3,pt g3),(2,pt g2)] a→Me w (M.map Ent.g) (⟨g2,3,[.int .i64 x]⟩::⟨g3,45,[.int .i64 y]⟩::N) w4→StP post (.tuple #[.int .i64 x,.int .i64 y]) N →
   Leaves Tryz.prog Tryz.f89 a.tmps (abi w (M.map Ent.g) (StP post)) [] .returning w4:=fun N x y a w4 hk hm hq=>by
  refine⟨.tuple #[.int .i64 x,.int .i64 y],?_,_,N,rfl,hm.tail.tail,hq⟩;have hm2:Me w4 [g2,g3] [⟨g2,3,[.int .i64 x]⟩,⟨g3,45,[.int .i64 y]⟩] w4:=⟨.refl _ _,fun e he=>hm.ok e (by rcases List.mem_cons.1 he with rfl|he;exact List.mem_cons_self;rw[List.mem_singleton] at he;subst he;exact List.mem_cons_of_mem _ List.mem_cons_self),by simp,by simpa using hgs hm⟩;have h:=bj (P:=Tryz.prog) (sU (P:=Tryz.prog) (p:=2) (t:=3) (K:=[(3,pt g3),(2,pt g2)]) rfl Hs.here rfl a w4 hk hm2) (sU (P:=Tryz.prog) (p:=3) (t:=45) (K:=[(3,pt g3),(2,pt g2)]) rfl (Hs.there Hs.here) rfl a w4 hk hm2);rw[yH,show Tryz.f89.results=#[.cell 2 3,.cell 3 45] from rfl,Sem.run_bind,h];rfl
 repeat (first|refine Tw ?_|(refine Tm ?_;intro _)|exact Tz)
 refine WO.callsEV (fs:=[]) (cs:=caps) (hc:=hc) rfl rfl (by simp) (List.perm_append_comm (l₁:=[_,_]) (l₂:=M)) (fun w2 hm=>hst w w2 hw hm.mod) (fun v N hq=>?_) (fun ch N hq=>?_)
 ·refine WO.nil (WX.un (fun a w3 f1 f2 f3 f4=>?_));show Code.wp _ _ _ _ _;have f5:=f4.perm (L':=⟨g3,45,[.int .i64 0]⟩::⟨g2,3,[.int .i64 0]⟩::N) (List.perm_append_comm (l₁:=N));refine WO.tail (w0:=w) (gs:=M.map Ent.g) (n:=7) (K:=[(3,pt g3),(2,pt g2)]) (ds:=[{ target:=.fn (.func 126) [pt g2,pt g3].toArray,args:=#[] }]) (by simp[dfA,f1]) f2 (Kle.kn f3 (by repeat (first|exact Kle.nil|refine Kle.cons rfl rfl ?_))) f5 ?_;refine WO.stores zD ?_;refine WO.stores zD ?_;refine WO.nil (WX.un (fun a w4 h1 h2 h3 h4=>?_));show Code.wp _ _ _ _ _;refine wp_ret ?_;have hds:(dfA [{ target:=.fn (.func 126) [pt g2,pt g3].toArray,args:=#[] }] a).defers=[{ target:=.fn (.func 126) [pt g2,pt g3].toArray,args:=#[] }]:=by simp[dfA,h1]
  show Leaves Tryz.prog Tryz.f89 a.tmps _ (dfA _ a).defers .returning w4;rw[hds];have h5:=h4.perm (L':=⟨g2,3,[.int .i64 0]⟩::⟨g3,45,[.int .i64 0]⟩::N) (List.Perm.swap _ _ _);refine leaves_cons (f:=126) (args:=[pt g2,pt g3].toArray) (by simp) (pg g2 g3 _) ?_;refine (abZ g2 g3 0 0 w4 (h5.ok _ List.mem_cons_self) (h5.ok _ (List.mem_cons_of_mem _ List.mem_cons_self)) (hgs h5)).mono ?_;rintro e u' w5 ⟨rfl,rfl,hm5⟩;exact hfin N 0 0 a w5 h3 (Me.callL (M:=[_,_]) h5 hm5) (.inl ⟨rfl,v,hq⟩)
 ·obtain⟨k,rfl⟩ : ∃ k,ch=[{ v:=uF k,recovered:=false }]:=by
   rcases hp _ _ hq with ⟨v,h⟩|⟨k,h⟩
   ·cases h
   ·cases h;exact⟨k,rfl⟩
  refine WX.un (fun a w3 f1 f2 f3 f4=>?_);have f5:=f4.perm (L':=⟨g3,45,[.int .i64 0]⟩::⟨g2,3,[.int .i64 0]⟩::N) (List.perm_append_comm (l₁:=N));have h5:=f5.perm (L':=⟨g2,3,[.int .i64 0]⟩::⟨g3,45,[.int .i64 0]⟩::N) (List.Perm.swap _ _ _);have hds:(dfA [{ target:=.fn (.func 126) [pt g2,pt g3].toArray,args:=#[] }] a).defers=[{ target:=.fn (.func 126) [pt g2,pt g3].toArray,args:=#[] }]:=by simp[dfA,f1]
  show Leaves Tryz.prog Tryz.f89 a.tmps _ (dfA _ a).defers (.panicking _) w3;rw[hds];refine leaves_cons (f:=126) (args:=[pt g2,pt g3].toArray) (by simp) (pg g2 g3 _) ?_;refine (cj g2 g3 k 0 0 w3 (h5.ok _ List.mem_cons_self) (h5.ok _ (List.mem_cons_of_mem _ List.mem_cons_self)) (hgs h5)).mono ?_;rintro e u' w5 ⟨rfl,rfl,hm5⟩;exact hfin N 1 k a w5 (Kle.kn f3 (by repeat (first|exact Kle.nil|refine Kle.cons rfl rfl ?_))) (Me.callL (M:=[_,_]) h5 hm5) (.inr ⟨k,rfl,hq⟩)
end Sx
end
section
open Go Go.RowKit Go.BigFrame
namespace Sx
attribute [local irreducible] DQ DQS WC WO wd
theorem aaw (p q g h i k:Nat) (hi:i≤7) (hk:k≤7) (h1:i - k<q) (h2:k - i<q) (hq2:2≤q) (hq:q<zc):Fn Tryz.prog 85 [yh p q g h,.int .i64 ((i:Int) - (k:Int))] Tr (Is (ze (dOf q i k))):=by
 by_cases hik:k≤i
 ·have:=lM p q g h (i - k) (by omega) hq;rw[show (((i - k:Nat)):Int)=(i:Int) - (k:Int) by omega] at this;exact this
 ·have:=aaC p q g h (k - i) (by omega) (by omega) h2 hq;rw[kI hq2 (by omega) h2,show (i:Int) - (k:Int) = -((k - i:Nat):Int) by omega];exact this
section
variable (q n:Nat) (P:List Nat)
def wdM (j v:Nat):List Value:=((List.range j).map fun i=>dw q n P (i+1)).flatMap zb++(zb v++mkz (n - (j+1)) (zb 0))
def wdL (j:Nat):List Value:=((List.range j).map fun i=>dw q n P (i+1)).flatMap zb++mkz (n - j) (zb 0)
theorem kR {j:Nat}:(((List.range j).map fun i=>dw q n P (i+1)).flatMap zb).length=j*4:=by rw[zt zx];simp
theorem kN (a b:Nat) (z:List Value):mkz (a+b) z=mkz a z++mkz b z:=by
 unfold mkz;rw[← List.replicate_append_replicate,List.flatten_append]
theorem adh {j:Nat} (h:j<n):wdL q n P j=wdM q n P j 0:=by
 unfold wdL wdM;rw[show n - j=1+(n - (j+1)) by omega,kN,show mkz 1 (zb 0)=zb 0 by simp[mkz]]
theorem adn {j:Nat}:wdM q n P j (dw q n P (j+1))=wdL q n P (j+1):=by
 unfold wdL wdM;rw[List.range_succ,List.map_append,List.flatMap_append,List.append_assoc];simp
theorem eK {j v:Nat}:cut (wdM q n P j v) (0+j*4) 4=zb v:=by
 unfold cut wdM;rw[Nat.zero_add,List.drop_append_of_le_length (by rw[kR];omega),List.drop_of_length_le (by rw[kR];omega),List.nil_append,List.take_append_of_le_length (by simp[zb])];rfl
theorem ly {j v v' : Nat}:over (wdM q n P j v) (0+j*4) (zb v')=wdM q n P j v':=by
 unfold over wdM;have hp:=kR q n P (j:=j);generalize ((List.range j).map fun i=>dw q n P (i+1)).flatMap zb=A at *;rw[Nat.zero_add,List.take_append_of_le_length (by omega),List.take_of_length_le (by omega),show j*4+(zb v').length=A.length+4 by rw[hp];rfl,← List.drop_drop,List.drop_left,List.append_assoc];rfl
theorem fS {j v:Nat}:Nat.ble (0+j*4+4) (wdM q n P j v).length=true:=by
 rw[Nat.ble_eq];unfold wdM;rw[List.length_append,kR,List.length_append,show (zb v).length=4 from rfl];omega
end
end Sx
end
section
open Go Go.RowKit Go.BigFrame
namespace Sx
attribute [local irreducible] DQ DQS WC WI WO WX wd
section
variable (p q g h:Nat) (P:List Nat) (n gp cp gO gV gG gP gN:Nat)
def W1P:Ending→List Ent→Prop:=fun e N=>(oI q n=true∧(∃ v,e=.returned v)∧N=[⟨gO,24,wdL q n P n⟩,⟨gV,36,[.slice (some ⟨gO,0,none⟩) n n]⟩,⟨gG,26,zJ p q g h⟩,⟨gP,36,[.slice (some ⟨gp,0,none⟩) P.length cp]⟩,⟨gN,3,[.int .i64 (n:Int)]⟩])∨(oI q n=false∧e=.panicked [{ v:=uF 7,recovered:=false }])
theorem aaG {q d:Nat} (h:Nat.gcd d q=1) (h1:1<q) (hd:d<q):ij d q=0∧zF d d q=true:=by
 have hm:zF d d q=true:=by simp[zF,h1,hd]
 exact⟨by unfold ij;rw[hm,if_pos rfl,if_pos h],hm⟩
theorem aaK {q d:Nat} (h:¬ Nat.gcd d q=1) (h1:1<q) (hd:d<q):ij d q=7∧zF d d q=true:=by
 have hm:zF d d q=true:=by simp[zF,h1,hd]
 exact⟨by unfold ij;rw[hm,if_pos rfl,if_neg h],hm⟩
theorem cg {i k:Nat} (hi:i<n) (hk:k∈oth n (i+1)) (hb:¬ Nat.gcd (dOf q (i+1) k) q=1):oI q n=false:=by
 rw[Bool.eq_false_iff];intro hA;have h1:=List.all_eq_true.1 (List.all_eq_true.1 hA i (List.mem_range.2 hi)) k hk;exact hb (by simpa using h1)
theorem db {i k:Nat} {l:List Nat} (h:dwG q i l=true) (hk:Nat.gcd (dOf q i k) q=1):dwG q i (l++[k])=true:=by
 unfold dwG at *;rw[List.all_append,h];simp[hk]
set_option maxRecDepth 20000 in
theorem aaR (hn7:n≤7) (hnq:n<q) (hq:q<zc) (hP:vW q P=true) (hPb:∀ a∈P,a<zc) (hPl:P.length≤100) :
  FnE Tryz.prog 127 [pt gV,pt gG,pt gP,pt gN] [⟨gO,24,mkz n (zb 0)⟩,⟨gV,36,[.slice (some ⟨gO,0,none⟩) n n]⟩,⟨gG,26,zJ p q g h⟩,⟨gP,36,[.slice (some ⟨gp,0,none⟩) P.length cp]⟩,⟨gN,3,[.int .i64 (n:Int)]⟩] (fun w=>Seg w gp 0 (P.flatMap zb)∧gp<w.heap.size∧gp ∉ [gO,gV,gG,gP,gN]) (W1P p q g h P n gp cp gO gV gG gP gN):=by
 rintro w hok hnd ⟨hSp,hlp,hgp⟩;have h1q:1<q:=(vF hP).1;have h0q:0<q:=by omega
 refine WU.calls (n:=53) (m:=40) Tryz.func127 rfl rfl rfl (fun a a1 a2 a3=>?_);have a4:Me w [gO,gV,gG,gP,gN] [⟨gO,24,mkz n (zb 0)⟩,⟨gV,36,[.slice (some ⟨gO,0,none⟩) n n]⟩,⟨gG,26,zJ p q g h⟩,⟨gP,36,[.slice (some ⟨gp,0,none⟩) P.length cp]⟩,⟨gN,3,[.int .i64 (n:Int)]⟩] w:=⟨.refl _ _,hok,fun e he=>.inr (List.mem_map.2 ⟨e,he,rfl⟩),hnd⟩;refine WU.seqR (ds:=[]) (w0:=w) (gs:=[gO,gV,gG,gP,gN]) (n:=53) a1 a2 a3 a4 ?_
 repeat (first|refine Tw ?_|(refine Tm ?_;intro _)|exact Tz)
 refine WX.z (fun a w1 c1 c2 c3 c4=>?_);refine WU.block ?_;refine WU.loop (σ:=Nat) (fun j a W=>∃ ds mk,a.defers=ds∧Marks W ds mk∧(∀ D∈mk,w.heap.size≤D)∧a.tmps.size=53∧Kn [(0,pt gV),(1,pt gG),(2,pt gP),(3,pt gN),(6,.slice (some ⟨gO,0,none⟩) n n),(7,.int .i64 (n:Int)),(8,.int .i64 (j:Int))] a∧j≤n∧(∀ i,i<j→dwG q (i+1) (oth n (i+1))=true)∧Me w [gO,gV,gG,gP,gN] [⟨gO,24,wdL q n P j⟩,⟨gV,36,[.slice (some ⟨gO,0,none⟩) n n]⟩,⟨gG,26,zJ p q g h⟩,⟨gP,36,[.slice (some ⟨gp,0,none⟩) P.length cp]⟩,⟨gN,3,[.int .i64 (n:Int)]⟩] W) (fun j=>n - j) 0 ⟨[],[],c1,.nil,by simp,c2,Kle.kn c3 (by repeat (first|exact Kle.nil|refine Kle.cons rfl rfl ?_)),Nat.zero_le _,fun i hi=>absurd hi (Nat.not_lt_zero _),c4⟩ (fun j a W hI=>?_);clear c1 c2 c3 c4 a1 a2 a3 a4 hok;obtain⟨ds,mk,c1,hmk,hmw,c2,c3,hj,hgd,c4⟩:=hI;have hsz:=c4.mod.size;have hSpW:Seg W gp 0 (P.flatMap zb):=hSp.mod c4.mod hgp;have hmkg:∀ D∈mk,D ∉ [gO,gV,gG,gP,gN]:=fun D hD hm=>by
  obtain⟨e,he,hg⟩:=List.mem_map.1 (show D∈([⟨gO,24,wdL q n P j⟩,⟨gV,36,[.slice (some ⟨gO,0,none⟩) n n]⟩,⟨gG,26,zJ p q g h⟩,⟨gP,36,[.slice (some ⟨gp,0,none⟩) P.length cp]⟩,⟨gN,3,[.int .i64 (n:Int)]⟩]:List Ent).map Ent.g from hm);exact hmk.apart (c4.ok e he) (by rw[hg];exact hD)
 have c40:=c4;have hb:Me W [gO,gV,gG,gP,gN] [⟨gO,24,wdL q n P j⟩,⟨gV,36,[.slice (some ⟨gO,0,none⟩) n n]⟩,⟨gG,26,zJ p q g h⟩,⟨gP,36,[.slice (some ⟨gp,0,none⟩) P.length cp]⟩,⟨gN,3,[.int .i64 (n:Int)]⟩] W:=⟨.refl _ _,c4.ok,fun e he=>.inr (List.mem_map.2 ⟨e,he,rfl⟩),c4.nodup⟩
 by_cases hlt:j<n
 ·rw[adh q n P hlt] at hb;have hadd:IntKind.i64.wrap ((j:Int)+1)=((j+1:Nat):Int):=zm (by omega) (by omega) (by omega);have hOf:Fn Tryz.prog 85 [yh p q g h,.int .i64 ((j+1:Nat):Int)] Tr (Is (ze (ofZ q ((j+1:Nat):Int)))):=lM p q g h (j+1) (by omega) hq;have hxq:ofZ q ((j+1:Nat):Int)<q:=kK _ h0q;have hAt:=ko p q g h P (some ⟨gp,0,none⟩) cp (ofZ q ((j+1:Nat):Int)) hPb (by omega) hq (Nat.lt_trans hxq hq) hP hxq;have hmY:=se (z7 P (ofZ q ((j+1:Nat):Int))%q);have hV0q:(z7 P (ofZ q ((j+1:Nat):Int))%q)<q:=Nat.mod_lt _ h0q;generalize hV0:(z7 P (ofZ q ((j+1:Nat):Int))%q)=v0 at hAt hmY hV0q;refine WU.seqR (ds:=ds) (w0:=W) (gs:=[gO,gV,gG,gP,gN]) (n:=53) c1 c2 c3 hb ?_;refine WO.does (uD rfl rfl (by omega)) ?_;refine WO.nil (WX.z (fun a W1 c1 c2 c3 c4=>?_));refine WU.seq (WU.cond (t:=true) (c3.eval (x:=.tmp 9) rfl) (WU.of (wp_skip ?_)));show WU _ _ _ _ _ _;refine WU.seq (WU.block ?_);refine WU.seqR c1 c2 c3 c4 ?_
  repeat (first|refine Tw ?_|(refine Tm ?_;intro _)|exact Tz)
  rename_i g4;refine WX.z (fun a W1 c1 c2 c3 c4=>?_);refine WU.seqD 13 c1 c2 c3 c4 ?_
  iterate 6 (first|refine Da ?_|refine Dc ?_)
  refine DQ.does (fun s _=>zi rfl rfl hadd) Dp.const ?_;refine DQ.acallM (hc:=hOf) (hR:=fun _ _=>trivial) (k:=?_);refine DQ.acallM (hc:=hAt) (hR:=fun w1 hm=>⟨_,_,rfl,.inr ⟨gp,0,rfl,hSpW.mod hm.mod hgp⟩⟩) (k:=?_)
  iterate 2 (first|refine Da ?_|refine Dc ?_)
  refine DQ.acallM (hc:=hmY) (hR:=fun _ _=>trivial) (k:=?_);refine DQ.does (fun s _=>za (o':=0+j*4) rfl rfl hlt rfl) Dp.const ?_;refine DQ.anil (k:=?_);intro sx _;refine WO.stores (zD (vs:=zb v0) (cs':=wdM q n P j v0) (hc:=ly q n P) (hle:=fS q n P)) ?_;refine WO.nil (WX.z (fun a W1 c1 c2 c3 c4=>?_));refine WU.seqR c1 c2 c3 c4 ?_;refine WO.auto (k:=?_);refine WO.does (zi rfl rfl hadd) ?_;refine WO.auto (k:=?_);refine WO.acallX (hc:=bp ((j+1:Nat):Int) (n:Int)) (hR:=fun _ _=>trivial) (k:=fun s _=>?_);generalize s 0=gA;generalize s 1=gB;clear s;simp only[List.cons_append,List.nil_append];refine WO.nil (WX.z (fun a W1 c1 c2 c3 c4=>?_));refine WU.block ?_;have oA:=c4.ok ⟨gA,_,_⟩ (Hs.mem Hs.a);have oB:=c4.ok ⟨gB,_,_⟩ (Hs.mem Hs.a);have o4:=c4.ok ⟨g4,_,_⟩ (Hs.mem Hs.a);have lO:=(c4.ok ⟨gO,_,_⟩ (Hs.mem Hs.a)).lt;have lV:=(c4.ok ⟨gV,_,_⟩ (Hs.mem Hs.a)).lt;have lG:=(c4.ok ⟨gG,_,_⟩ (Hs.mem Hs.a)).lt;have lP:=(c4.ok ⟨gP,_,_⟩ (Hs.mem Hs.a)).lt;have lN:=(c4.ok ⟨gN,_,_⟩ (Hs.mem Hs.a)).lt;have sA:=oA.seg 0;have sB:=oB.seg 0;have lA:=oA.lt;have lB:=oB.lt;have l4:=o4.lt;have hnd6:=c4.nodup;simp only[List.drop_zero] at sA sB;dsimp only at lA lB l4 lO lV lG lP lN;have hAB:gA ∉ g4::[gO,gV,gG,gP,gN]∧gB ∉ g4::[gO,gV,gG,gP,gN]:=by
   simp only[List.map_cons,List.map_nil,List.nodup_cons,List.mem_cons,not_or] at hnd6;simp only[List.mem_cons,List.not_mem_nil,or_false,not_or];exact⟨⟨hnd6.1.2.1,hnd6.1.2.2.1,hnd6.1.2.2.2.1,hnd6.1.2.2.2.2.1,hnd6.1.2.2.2.2.2.1,hnd6.1.2.2.2.2.2.2.1⟩,⟨hnd6.2.1.1,hnd6.2.1.2.1,hnd6.2.1.2.2.1,hnd6.2.1.2.2.2.1,hnd6.2.1.2.2.2.2.1,hnd6.2.1.2.2.2.2.2.1⟩⟩
  have hG6:∀ k∈g4::[gO,gV,gG,gP,gN],k<W1.heap.size:=by simp only[List.mem_cons,List.not_mem_nil,or_false];rintro k (rfl|rfl|rfl|rfl|rfl|rfl)<;>assumption
  have hsz1:=c4.mod.size;have c4b:Me W [gO,gV,gG,gP,gN] [⟨g4,3,[.int .i64 (j:Int)]⟩,⟨gO,24,wdM q n P j v0⟩,⟨gV,36,[.slice (some ⟨gO,0,none⟩) n n]⟩,⟨gG,26,zJ p q g h⟩,⟨gP,36,[.slice (some ⟨gp,0,none⟩) P.length cp]⟩,⟨gN,3,[.int .i64 (n:Int)]⟩] W1:=Lle.me (by repeat (first|exact Lle.nil|refine Lle.c ?_)) c4;clear c4 hnd6;have hK2:∀ k∈[gA,gB],k<W1.heap.size:=by simp only[List.mem_cons,List.not_mem_nil,or_false];rintro k (rfl|rfl)<;>assumption
  refine WU.range (α:=OtT n (j+1)) (m:=2) (a:=a) (w:=W1) Tryz.func127 (g:=.tmp 27) (gf:=151) (lb:=#[pt gA,pt gB]) (c3.eval (x:=.tmp 27) rfl) (enters_of Tryz.func151 (by kernel_rfl) rfl) (encs:=fun x=>#[.int .i64 (x.1:Int)]) (fun _=>rfl)
   (ia 2 (j+1) n gA gB hn7 (by omega) W1 sA sB hK2) KpB.trans (KpB.put hK2)
   (fun (pre:List (OtT n (j+1))) W2=>Me W [gO,gV,gG,gP,gN] [⟨g4,3,[.int .i64 (j:Int)]⟩,⟨gO,24,wdM q n P j ((pre.map fun x=>x.1).foldl (dwF q (j+1)) v0)⟩,⟨gV,36,[.slice (some ⟨gO,0,none⟩) n n]⟩,⟨gG,26,zJ p q g h⟩,⟨gP,36,[.slice (some ⟨gp,0,none⟩) P.length cp]⟩,⟨gN,3,[.int .i64 (n:Int)]⟩] W2∧W1.heap.size≤W2.heap.size∧dwG q (j+1) (pre.map fun x=>x.1)=true) (fun pre A B row hs hgr hr=>⟨hs.1.ownG hsz1 hgr hr,Nat.le_trans hs.2.1 hgr.size,hs.2.2⟩) ⟨c4b,Nat.le_refl _,rfl⟩ (fun ch W2=>ch=[{ v:=uF 7,recovered:=false }]∧Me W [gO,gV,gG,gP,gN] [] W2∧oI q n=false) (fun (x:OtT n (j+1)) a2 _=>a2.defers=[]∧a2.tmps.size=53∧Kn [(0,pt gV),(1,pt gG),(2,pt gP),(3,pt gN),(4,pt g4),(5,.int .i64 (x.1:Int))] a2) (fun x a2 _ _ _ _ hs _ _=>hs) ?assign ?body ?done ?pan
  case assign =>
   intro lr pre y W2 K hI2 hK;have hQ:¬ LetsOut (Exit.then K (fun _ _ _=>False)):=fun ⟨_,_,h⟩=>h;have hkn:Kn ([(28,.int .i64 (y.1:Int))]++[(0,pt gV),(1,pt gG),(2,pt gP),(3,pt gN),(4,pt g4)]) { tmps:=((#[28]:Array Tmp).zip #[.int .i64 (y.1:Int)]).foldl (fun t (p,v)=>t.setIfInBounds p v) a.tmps,defers:=[] }:=by
    have k00:Kn [(0,pt gV),(1,pt gG),(2,pt gP),(3,pt gN),(4,pt g4)] a:=Kle.kn c3 (by repeat (first|exact Kle.nil|refine Kle.cons rfl rfl ?_));have k0:Kn [(0,pt gV),(1,pt gG),(2,pt gP),(3,pt gN),(4,pt g4)] ({ a with defers:=[] }:Act):=k00;have k1:=k0.put (d:=28) (by show 28<a.tmps.size;omega) (.int .i64 (y.1:Int));intro t v ht;have k4:=k1 t v ht;simpa [Act.put,Array.zip] using k4
   suffices HH:WI (some lr) 1 Tryz.prog W2 [] 53 _ (Exit.then K (fun _ _ _=>False)) ([(28,.int .i64 (y.1:Int))]++[(0,pt gV),(1,pt gG),(2,pt gP),(3,pt gN),(4,pt g4)]) [] from HH.app rfl (by simp[c2]) hkn (Me.refl W2 [])
   refine WI.region ?_ (by exact hQ);refine WO.auto (k:=?_);refine WO.nil (WX.un (fun a2 W3 e1 e2 e3 e4=>?_));exact hK a2 W3 ⟨e4.mod.size,fun k o _ hk _=>(e4.mod.block k (Array.getElem?_eq_some_iff.1 hk).1 (by simp)).trans hk⟩ ⟨yl.of_mod e4.mod (fun k hk=>⟨Nat.lt_of_lt_of_le (hK2 k hk) hI2.2.1,by simp⟩),e4.mod.size⟩ ⟨hI2.1.below e4.mod.below,Nat.le_trans hI2.2.1 e4.mod.size,hI2.2.2⟩ ⟨e1,e2,Kle.kn e3 (by repeat (first|exact Kle.nil|refine Kle.cons rfl rfl ?_))⟩
  case body =>
   rintro lr pre ⟨y,hy⟩ a2 W2 hl ⟨hI1,hI2,hI3⟩ ⟨e1,e2,e3⟩ hlen;obtain⟨hy1,hy2,hy3⟩:=mO.1 hy;dsimp only at e3;have hcur:((pre.map fun x=>x.1).foldl (dwF q (j+1)) v0)<q:=aaE _ hV0q;have hsn:(((pre++[(⟨y,hy⟩ : OtT n (j+1))]).map fun x=>x.1).foldl (dwF q (j+1)) v0)=((pre.map fun x=>x.1).foldl (dwF q (j+1)) v0)*uy (dOf q (j+1) y) q%q:=by rw[List.map_append,List.map_singleton];exact fk
   have hdl:dOf q (j+1) y<q:=av h0q;have hDf:=aaw p q g h (j+1) y (by omega) (by omega) (by omega) (by omega) (by omega) hq;have hIv:=abJ p q g h (dOf q (j+1) y) (Nat.lt_trans hdl hq) hq;have hsub:IntKind.i64.wrap (((j+1:Nat):Int) - (y:Int))=((j+1:Nat):Int) - (y:Int):=i64_in (by omega) (by omega);have hm0:Me W2 (g4::[gO,gV,gG,gP,gN]) [⟨g4,3,[.int .i64 (j:Int)]⟩,⟨gO,24,wdM q n P j ((pre.map fun x=>x.1).foldl (dwF q (j+1)) v0)⟩,⟨gV,36,[.slice (some ⟨gO,0,none⟩) n n]⟩,⟨gG,26,zJ p q g h⟩,⟨gP,36,[.slice (some ⟨gp,0,none⟩) P.length cp]⟩,⟨gN,3,[.int .i64 (n:Int)]⟩] W2:=⟨.refl _ _,hI1.ok,fun e he=>.inr (List.mem_map.2 ⟨e,he,rfl⟩),hI1.nodup⟩
   by_cases hgcd:Nat.gcd (dOf q (j+1) y) q=1
   ·obtain⟨hv1,hv2⟩:=aaG hgcd h1q hdl;have hI3':=db q (i:=j+1) hI3 hgcd;rw[hv1,hv2,show okV true (uy (dOf q (j+1) y) q)=uy (dOf q (j+1) y) q from rfl] at hIv;have hil:=ft (a:=dOf q (j+1) y) (m:=q) h1q hdl;have hM1:=se (uy (dOf q (j+1) y) q);have hMu:=kC p q g h ((pre.map fun x=>x.1).foldl (dwF q (j+1)) v0) (uy (dOf q (j+1) y) q) (Nat.lt_trans hcur hq) (Nat.lt_trans hil hq) hq;rw[show zF ((pre.map fun x=>x.1).foldl (dwF q (j+1)) v0) (uy (dOf q (j+1) y) q) q=true by unfold zF;rw[decide_eq_true h1q,decide_eq_true hcur,decide_eq_true hil];rfl] at hMu;have hM2:=se (((pre.map fun x=>x.1).foldl (dwF q (j+1)) v0)*uy (dOf q (j+1) y) q%q);rw[← hsn] at hMu hM2;simp only[rE,okV,okE,if_true,if_pos] at hMu;generalize hnv:(((pre++[(⟨y,hy⟩ : OtT n (j+1))]).map fun x=>x.1).foldl (dwF q (j+1)) v0)=nv at hMu hM2 hsn;generalize uy (dOf q (j+1) y) q=iv at *;generalize dOf q (j+1) y=dd at *;generalize ((pre.map fun x=>x.1).foldl (dwF q (j+1)) v0)=cur at *
    suffices HH:WI (some lr) 1 Tryz.prog W2 (g4::[gO,gV,gG,gP,gN]) 53 _ (ac1 W1.heap.size (KpB [gA,gB]) (fun (pre:List (OtT n (j+1))) W2=>Me W [gO,gV,gG,gP,gN] [⟨g4,3,[.int .i64 (j:Int)]⟩,⟨gO,24,wdM q n P j ((pre.map fun x=>x.1).foldl (dwF q (j+1)) v0)⟩,⟨gV,36,[.slice (some ⟨gO,0,none⟩) n n]⟩,⟨gG,26,zJ p q g h⟩,⟨gP,36,[.slice (some ⟨gp,0,none⟩) P.length cp]⟩,⟨gN,3,[.int .i64 (n:Int)]⟩] W2∧W1.heap.size≤W2.heap.size∧dwG q (j+1) (pre.map fun x=>x.1)=true) (fun ch W2=>ch=[{ v:=uF 7,recovered:=false }]∧Me W [gO,gV,gG,gP,gN] [] W2∧oI q n=false) (pre++[⟨y,hy⟩]) W2) [(0,pt gV),(1,pt gG),(2,pt gP),(3,pt gN),(4,pt g4),(5,.int .i64 (y:Int))] [⟨g4,3,[.int .i64 (j:Int)]⟩,⟨gO,24,wdM q n P j cur⟩,⟨gV,36,[.slice (some ⟨gO,0,none⟩) n n]⟩,⟨gG,26,zJ p q g h⟩,⟨gP,36,[.slice (some ⟨gp,0,none⟩) P.length cp]⟩,⟨gN,3,[.int .i64 (n:Int)]⟩] from HH.app e1 e2 e3 hm0
    refine WI.block ?_;refine WI.draw 23 (fun ⟨_,_,h⟩=>h) ?_
    iterate 5 (first|refine Da ?_|refine Dc ?_)
    refine DQ.does (fun s _=>za (o':=0+j*4) rfl rfl hlt rfl) Dp.const ?_;refine DQ.does (fun s _=>zy (vs:=zb cur) (hc:=eK q n P)) Dp.const ?_
    iterate 3 (first|refine Da ?_|refine Dc ?_)
    refine DQ.does (fun s _=>zi rfl rfl hadd) Dp.const ?_
    iterate 1 (first|refine Da ?_|refine Dc ?_)
    refine DQ.does (fun s _=>zM rfl rfl hsub) Dp.const ?_;refine DQ.acallM (hc:=hDf) (hR:=fun _ _=>trivial) (k:=?_);refine DQ.acallM (hc:=hIv) (hR:=fun _ _=>trivial) (k:=?_)
    iterate 2 (first|refine Da ?_|refine Dc ?_)
    refine DQ.acallM (hc:=hM1) (hR:=fun _ _=>trivial) (k:=?_);refine DQ.acallM (hc:=hMu) (hR:=fun _ _=>trivial) (k:=?_)
    iterate 2 (first|refine Da ?_|refine Dc ?_)
    refine DQ.acallM (hc:=hM2) (hR:=fun _ _=>trivial) (k:=?_);refine DQ.does (fun s _=>za (o':=0+j*4) rfl rfl hlt rfl) Dp.const ?_;refine DQ.anil (k:=?_);intro sx _;refine WO.stores (zD (vs:=zb nv) (cs':=wdM q n P j nv) (hc:=ly q n P) (hle:=fS q n P)) ?_;refine WO.nil (WX.blk_normal (WX.un (fun a3 W3 f1 f2 f3 f4=>?_)));refine⟨⟨f4.mod.size,fun k o hk0 hk _=>(f4.mod.block k (Array.getElem?_eq_some_iff.1 hk).1 (fun hx=>by have:=hG6 k hx;omega)).trans hk⟩,⟨yl.of_mod f4.mod (fun k hk=>⟨Nat.lt_of_lt_of_le (hK2 k hk) hI2,by
     rcases List.mem_cons.1 hk with rfl|hk
     ·exact hAB.1
     ·rw[List.mem_singleton] at hk;subst hk;exact hAB.2⟩),f4.mod.size⟩,?_,Nat.le_trans hI2 f4.mod.size,?_⟩
    ·rw[hnv];have:=Me.callL (M:=[⟨g4,3,[.int .i64 (j:Int)]⟩,⟨gO,24,wdM q n P j cur⟩,⟨gV,36,[.slice (some ⟨gO,0,none⟩) n n]⟩,⟨gG,26,zJ p q g h⟩,⟨gP,36,[.slice (some ⟨gp,0,none⟩) P.length cp]⟩,⟨gN,3,[.int .i64 (n:Int)]⟩]) (R:=[]) (by simpa using hI1) f4;simpa using this
    ·rw[List.map_append];exact hI3'
   ·obtain⟨hv1,hv2⟩:=aaK hgcd h1q hdl;have hbad:=cg q n hlt hy hgcd;rw[hv1,hv2] at hIv;rw[show okV true (uy (dOf q (j+1) y) q)=uy (dOf q (j+1) y) q from rfl] at hIv;have hM1:=eo (uy (dOf q (j+1) y) q) 7 (by decide);generalize uy (dOf q (j+1) y) q=iv at *;generalize dOf q (j+1) y=dd at *;generalize ((pre.map fun x=>x.1).foldl (dwF q (j+1)) v0)=cur at *
    suffices HH:WI (some lr) 1 Tryz.prog W2 (g4::[gO,gV,gG,gP,gN]) 53 _ (ac1 W1.heap.size (KpB [gA,gB]) (fun (pre:List (OtT n (j+1))) W2=>Me W [gO,gV,gG,gP,gN] [⟨g4,3,[.int .i64 (j:Int)]⟩,⟨gO,24,wdM q n P j ((pre.map fun x=>x.1).foldl (dwF q (j+1)) v0)⟩,⟨gV,36,[.slice (some ⟨gO,0,none⟩) n n]⟩,⟨gG,26,zJ p q g h⟩,⟨gP,36,[.slice (some ⟨gp,0,none⟩) P.length cp]⟩,⟨gN,3,[.int .i64 (n:Int)]⟩] W2∧W1.heap.size≤W2.heap.size∧dwG q (j+1) (pre.map fun x=>x.1)=true) (fun ch W2=>ch=[{ v:=uF 7,recovered:=false }]∧Me W [gO,gV,gG,gP,gN] [] W2∧oI q n=false) (pre++[⟨y,hy⟩]) W2) [(0,pt gV),(1,pt gG),(2,pt gP),(3,pt gN),(4,pt g4),(5,.int .i64 (y:Int))] [⟨g4,3,[.int .i64 (j:Int)]⟩,⟨gO,24,wdM q n P j cur⟩,⟨gV,36,[.slice (some ⟨gO,0,none⟩) n n]⟩,⟨gG,26,zJ p q g h⟩,⟨gP,36,[.slice (some ⟨gp,0,none⟩) P.length cp]⟩,⟨gN,3,[.int .i64 (n:Int)]⟩] from HH.app e1 e2 e3 hm0
    refine WI.block ?_
    refine WI.pan (p:=17) (T:=[(0,.slice (some ⟨gO,0,none⟩) n n),(1,.int .i64 (j:Int)),(2,yh p q g h),(3,.slice (some ⟨gO,0,none⟩) n n),(4,.int .i64 (j:Int)),(5,.pointer (some ⟨gO,0+j*4,none⟩)),(6,ze cur),(7,yh p q g h),(8,yh p q g h),(9,.int .i64 (j:Int)),(10,.int .i64 ((j+1:Nat):Int)),(11,.int .i64 (y:Int)),(12,.int .i64 (((j+1:Nat):Int) - (y:Int))),(13,ze dd),(14,.tuple #[ze iv,.int .i64 7]),(15,ze iv),(16,.int .i64 7)])
     (fun ⟨_,_,h⟩=>h) (by kernel_rfl) ?_ (by rfl) rfl ?_
    ·exact Tlq.auto (Tlq.auto (Tlq.auto (Tlq.auto (Tlq.auto (Tlq.auto (Tlq.auto (Tlq.auto (Tlq.auto (Tlq.auto (Tlq.auto (Tlq.auto (Tlq.auto (Tlq.auto (Tlq.auto (Tlq.auto (Tlq.auto .nil)) (ho:=by rfl) (h:=by exact Quo.call (fs:=[]) (cs:=[]) (vs:=[yh p q g h,ze dd]) (ar:=[yh p q g h,ze dd]) hIv rfl rfl rfl (fun _ _=>trivial))) (ho:=by rfl) (h:=by exact Quo.call (fs:=[]) (cs:=[]) (vs:=[yh p q g h,.int .i64 (((j+1:Nat):Int) - (y:Int))]) (ar:=[yh p q g h,.int .i64 (((j+1:Nat):Int) - (y:Int))]) hDf rfl rfl rfl (fun _ _=>trivial))) (ho:=by rfl) (h:=by exact Quo.does (zM rfl rfl hsub)))) (ho:=by rfl) (h:=by exact Quo.does (zi rfl rfl hadd)))))) (ho:=by rfl) (h:=by exact Quo.does (zy (vs:=zb cur) (hc:=eK q n P)))) (ho:=by rfl) (h:=by exact Quo.does (za (o':=0+j*4) rfl rfl hlt rfl)))))))
    ·refine WO.callsEV (fs:=[]) (cs:=[]) (M:=[]) (hc:=hM1) rfl rfl rfl (.refl _) (fun _ _=>trivial) (fun v N hq=>by cases hq) (fun ch N hq=>?_);cases hq;refine WX.un (fun a3 W3 f1 f2 f3 f4=>?_);refine⟨f1,⟨f4.mod.size,fun k o hk0 hk _=>(f4.mod.block k (Array.getElem?_eq_some_iff.1 hk).1 (fun hx=>by have:=hG6 k hx;omega)).trans hk⟩,rfl,?_,hbad⟩;have:=Me.callL (M:=[⟨g4,3,[.int .i64 (j:Int)]⟩,⟨gO,24,wdM q n P j cur⟩,⟨gV,36,[.slice (some ⟨gO,0,none⟩) n n]⟩,⟨gG,26,zJ p q g h⟩,⟨gP,36,[.slice (some ⟨gp,0,none⟩) P.length cp]⟩,⟨gN,3,[.int .i64 (n:Int)]⟩]) (R:=[]) (by simpa using hI1) (N:=[]) ⟨f4.mod,by simp,by simp,by simp⟩;simpa using this
  case done =>
   rintro D xs W2 hD hS ⟨hI1,hI2,hI3⟩ hK;show WU _ _ _ _ _ _;refine WU.reg (ds:={ target:=.collected D,args:=#[] }::ds) (w0:=W2) (gs:=[]) (n:=53) (K:=[(0,pt gV),(1,pt gG),(2,pt gP),(3,pt gN),(6,.slice (some ⟨gO,0,none⟩) n n),(7,.int .i64 (n:Int)),(8,.int .i64 (j:Int))]) (L:=[]) (by rw[← c1]) c2 (Kle.kn c3 (by repeat (first|exact Kle.nil|refine Kle.cons rfl rfl ?_))) (Me.refl W2 []) ?_;refine WO.does (zi rfl rfl hadd) ?_;refine WO.auto (k:=?_);refine WO.nil (WX.un (fun a3 W3 e1 e2 e3 e4=>?_));rw[hS] at hI1 hI3;have hdw:(oth n (j+1)).foldl (dwF q (j+1)) v0=dw q n P (j+1):=by rw[← hV0];rfl
   rw[hdw,adn] at hI1;have hblk:∀ k,k<W.heap.size→k ∉ [gO,gV,gG,gP,gN]→W3.heap[k]?=W.heap[k]?:=fun k h1 h2=>(e4.mod.block k (Nat.lt_of_lt_of_le h1 hI1.mod.size) (by simp)).trans (hI1.mod.block k h1 h2);refine⟨j+1,by omega,{ target:=.collected D,args:=#[] }::ds,D::mk,by simp[dfA,e1],.cons ((e4.mod.block D (Array.getElem?_eq_some_iff.1 hK).1 (by simp)).trans hK) (fun h=>by have:=hmk.lt D h;omega) (hmk.keep (fun D' hD'=>hblk D' (hmk.lt D' hD') (hmkg D' hD'))),fun D' hD'=>?_,e2,Kle.kn e3 (by repeat (first|exact Kle.nil|refine Kle.cons rfl rfl ?_)),by omega,fun i hi=>?_,?_⟩
   ·rcases List.mem_cons.1 hD' with rfl|h
    ·omega
    ·exact hmw D' h
   ·by_cases hij:i=j
    ·subst hij;exact hI3
    ·exact hgd i (by omega)
   ·have h5:Me W [gO,gV,gG,gP,gN] [⟨gO,24,wdL q n P (j+1)⟩,⟨gV,36,[.slice (some ⟨gO,0,none⟩) n n]⟩,⟨gG,26,zJ p q g h⟩,⟨gP,36,[.slice (some ⟨gp,0,none⟩) P.length cp]⟩,⟨gN,3,[.int .i64 (n:Int)]⟩] W2:=hI1.tail;have:=Me.callL (M:=[⟨gO,24,wdL q n P j⟩,⟨gV,36,[.slice (some ⟨gO,0,none⟩) n n]⟩,⟨gG,26,zJ p q g h⟩,⟨gP,36,[.slice (some ⟨gp,0,none⟩) P.length cp]⟩,⟨gN,3,[.int .i64 (n:Int)]⟩]) (R:=[]) (by simpa using c40) h5;have h6:Me w [gO,gV,gG,gP,gN] [⟨gO,24,wdL q n P (j+1)⟩,⟨gV,36,[.slice (some ⟨gO,0,none⟩) n n]⟩,⟨gG,26,zJ p q g h⟩,⟨gP,36,[.slice (some ⟨gp,0,none⟩) P.length cp]⟩,⟨gN,3,[.int .i64 (n:Int)]⟩] W2:=by simpa using this
    exact h6.below e4.mod.below
  case pan =>
   rintro D ch W2 hD ⟨rfl,hm2,hbad⟩ hK;show LeavesInM Fence.wide 40 Tryz.prog Tryz.f127 a.tmps _ ({ target:=.collected D,args:=#[] }::a.defers) (.panicking _) W2;rw[c1];refine Marks.leave (by simp) (.cons (l:=mk) hK (fun h=>by have:=hmk.lt D h;omega) (hmk.keep (fun D' hD'=>hm2.mod.block D' (hmk.lt D' hD') (hmkg D' hD')))) (fun w' g1 g2 g3 g5 g6=>?_);refine⟨by simp,[],?_,.inr ⟨hbad,rfl⟩⟩;have h7:Me w [gO,gV,gG,gP,gN] [] W2:=⟨c40.mod.trans hm2.mod,by simp,by simp,by simp⟩;refine h7.marks (l:=D::mk) (fun D' hD'=>?_) (by simp) g1 g2 g3 g5 g6
   rcases List.mem_cons.1 hD' with rfl|h
   ·omega
   ·exact hmw D' h
 ·obtain rfl:j=n:=by omega
  have hall:oI q j=true:=by
   unfold oI;rw[List.all_eq_true];intro i hi;exact hgd i (List.mem_range.1 hi)
  refine WU.seqR (ds:=ds) (w0:=W) (gs:=[gO,gV,gG,gP,gN]) (n:=53) c1 c2 c3 hb ?_;refine WO.does (yy rfl rfl (by omega)) ?_;refine WO.nil (WX.z (fun a W1 c1 c2 c3 c4=>?_));refine WU.seq (WU.cond (t:=false) (c3.eval (x:=.tmp 9) rfl) (WU.of (wp_exit ?_)));show LeavesInM Fence.wide 40 Tryz.prog Tryz.f127 a.tmps _ a.defers .returning W1;rw[c1];have hblk:∀ k,k<W.heap.size→k ∉ [gO,gV,gG,gP,gN]→W1.heap[k]?=W.heap[k]?:=fun k h1 h2=>c4.mod.block k h1 h2;refine Marks.leave (by simp) (hmk.keep (fun D' hD'=>hblk D' (hmk.lt D' hD') (hmkg D' hD'))) (fun w' g1 g2 g3 g5 g6=>?_);refine⟨.tuple #[],results_none rfl _ _ _,by simp,_,?_,.inl ⟨hall,⟨_,rfl⟩,rfl⟩⟩;have h5:=Me.callL (M:=[⟨gO,24,wdL q j P j⟩,⟨gV,36,[.slice (some ⟨gO,0,none⟩) j j]⟩,⟨gG,26,zJ p q g h⟩,⟨gP,36,[.slice (some ⟨gp,0,none⟩) P.length cp]⟩,⟨gN,3,[.int .i64 (j:Int)]⟩]) (R:=[]) (by simpa using c40) c4;have h6:Me w [gO,gV,gG,gP,gN] [⟨gO,24,wdL q j P j⟩,⟨gV,36,[.slice (some ⟨gO,0,none⟩) j j]⟩,⟨gG,26,zJ p q g h⟩,⟨gP,36,[.slice (some ⟨gp,0,none⟩) P.length cp]⟩,⟨gN,3,[.int .i64 (j:Int)]⟩] W1:=by simpa using h5
  refine h6.marks (l:=mk) hmw (fun e he hm=>?_) g1 g2 g3 g5 g6;exact hmkg _ hm (List.mem_map.2 ⟨e,he,rfl⟩)
end
section
variable (p q g h:Nat) (P:List Nat) (n gp cp:Nat)
theorem abj:wdL q n P n=(dwL q n P).flatMap zb:=by
 unfold wdL dwL;rw[Nat.sub_self,show mkz 0 (zb 0)=[] from rfl,List.append_nil]
theorem aa {gO gV gG gP gN:Nat}:∀ e N,W1P p q g h P n gp cp gO gV gG gP gN e N→(∃ v,e=.returned v)∨(∃ k,e=.panicked [{ v:=uF k,recovered:=false }]):=fun e N h=>by
 rcases h with ⟨_,h,_⟩|⟨_,h⟩
 ·exact .inl h
 ·exact .inr ⟨7,h⟩
theorem abD (hn1:1≤n) (hn7:n≤7) (hnq:n<q) (hq:q<zc) (hP:vW q P=true) (hPb:∀ a∈P,a<zc) (hPl:P.length<n) :
  Fn Tryz.prog 92 [yh p q g h,.int .i64 (n:Int),.slice (some ⟨gp,0,none⟩) P.length cp] (fun w=>Seg w gp 0 (P.flatMap zb)∧gp<w.heap.size)
   (fun v N=>(oI q n=true∧∃ g',v=.tuple #[.slice (some ⟨g',0,none⟩) n n,.int .i64 0]∧N=[⟨g',24,(dwL q n P).flatMap zb⟩])∨(oI q n=false∧v=.tuple #[.slice none 0 0,.int .i64 7]∧N=[])):=by
 have hSt:=fun gO gV gG gP gN=>nO (aaR p q g h P n gp cp gO gV gG gP gN hn7 hnq hq hP hPb (by omega)) (fun w w' hR hm=>⟨hR.1.mod hm hR.2.2,Nat.lt_of_lt_of_le hR.2.1 hm.size,hR.2.2⟩) (aa p q g h P n gp cp);refine Fn.enter Tryz.func92 rfl rfl rfl ?_;intro w hw;obtain⟨hwS,hwl⟩:=hw
 repeat (first|refine WO.does (yy rfl rfl (by omega)) ?_|refine WO.does (zC rfl rfl (by omega)) ?_|refine WO.does (tu rfl rfl (by omega)) ?_|refine WO.does (zO rfl rfl) ?_|refine Ta ?_|(refine Tm ?_;intro _)|(refine WO.makes (zV (l:=n) (c:=n) rfl rfl (Nat.le_refl _) (by omega) (by omega)) ?_;intro _)|refine Tc ?_|exact Tz)
 rename_i gG gN gP gO gV;refine WO.mine (fun hmn=>?_);have hnot:gp ∉ [gO,gV,gG,gP,gN]:=by
  have hx:∀ e∈_,_:=hmn;intro hm;have key:∀ k∈[gO,gV,gG,gP,gN],w.heap.size≤k:=by
   intro k hk;simp only[List.mem_cons,List.not_mem_nil,or_false] at hk
   rcases hk with rfl|rfl|rfl|rfl|rfl<;>exact (hmn ⟨_,_,_⟩ (Hs.mem Hs.a)).resolve_right (by simp)
  have:=key gp hm;omega
 clear hmn;refine WO.callsL (hc:=hSt gO gV gG gP gN) (hp:=.cons Pk.a (.cons Pk.a (.cons Pk.a (.cons Pk.a (.cons Pk.a .nil))))) (fun w' hm=>⟨hwS.mod hm.mod (by simp),Nat.lt_of_lt_of_le hwl hm.mod.size,hnot⟩) (fun v N hv=>?_)
 rcases hv with ⟨rfl,u,hu⟩|⟨k,rfl,hu⟩
 ·obtain⟨hall,rfl⟩ : oI q n=true∧N=_:=by
   rcases hu with ⟨h1,_,h2⟩|⟨_,h2⟩
   ·exact⟨h1,h2⟩
   ·cases h2
  rw[abj];simp only[List.cons_append,List.nil_append]
  repeat (first|refine WO.does (yv rfl rfl (by decide)) ?_|refine Ta ?_|(refine Tm ?_;intro _)|refine Tc ?_|exact Tz)
  exact WX.ret2 rfl (by exact zr rfl) (by exact zr rfl) [⟨gO,24,(dwL q n P).flatMap zb⟩] (Lle.c Lle.nil) (.inl ⟨hall,gO,rfl,rfl⟩)
 ·obtain⟨hall,rfl⟩ : oI q n=false∧k=7:=by
   rcases hu with ⟨_,⟨_,h2⟩,_⟩|⟨h1,h2⟩
   ·cases h2
   ·refine⟨h1,?_⟩;simp only[Ending.panicked.injEq,List.cons.injEq,PanicEntry.mk.injEq,uF,Value.iface.injEq,true_and,and_true] at h2;simpa using h2
  repeat (first|refine WO.does (zB rfl rfl rfl) ?_|refine Ta ?_|(refine Tm ?_;intro _)|refine Tc ?_|exact Tz)
  exact WX.ret2 rfl (by exact zr rfl) (by exact zr rfl) [] Lle.nil (.inr ⟨hall,rfl,rfl⟩)
end
theorem RdF.ownD {α:Type} {f:α→List Value} {xs:List α} {w:World} {g o n c:Nat} (hs:Seg w g o (xs.flatMap f)) (hn:xs.length=n):RdF f (.slice (some ⟨g,o,none⟩) n c) xs w:=by
 subst hn;exact RdF.seg (r:=[]) (by rw[List.append_nil];exact hs)
theorem bM {q k:Nat}:over (mkz (k+1) (zb 0)) (k*4) (zb (ofZ q 1))=(pkN q k).flatMap zb:=by
 have h1:(mkz k (zb 0)).length=k*4:=by rw[zH];rfl
 have h2:mkz k (zb 0)=(List.replicate k 0).flatMap zb:=by
  unfold mkz;rw[List.flatMap_def,List.map_replicate]
 unfold over pkN;rw[kN,show mkz 1 (zb 0)=zb 0 by simp[mkz],List.take_append_of_le_length (by omega),List.take_of_length_le (by omega),List.flatMap_append,← h2,show k*4+(zb (ofZ q 1)).length=(mkz k (zb 0)).length+4 by rw[h1];rfl,← List.drop_drop,List.drop_left];simp[zb]
theorem aal {k:Nat}:Nat.ble (k*4+4) (mkz (k+1) (zb 0)).length=true:=by
 rw[Nat.ble_eq,zH,show (zb 0).length=4 from rfl];omega
theorem dv {q k:Nat} (h:1<q) (hk:k≤100):vW q (pkN q k)=true:=by
 unfold vW;simp only[Bool.and_eq_true,decide_eq_true_eq,List.all_eq_true];exact⟨h,fun a ha=>by simpa using am (by omega) a ha⟩
section
variable (p q g h:Nat) (V:List Nat) (n cV c bA oA gV gG gC:Nat)
def CkP:Ending→List Ent→Prop:=fun e _=>(duB p q n c V=true∧∃ v,e=.returned v)∨(duB p q n c V=false∧∃ k,e=.panicked [{ v:=uF k,recovered:=false }])
set_option maxRecDepth 20000 in
theorem dy (hVn:V.length=n) (hn1:1≤n) (hn7:n≤7) (hc1:1≤c) (hcn:c≤n) (hnq:n<q) (hq:q<zc) (hp:p<zc) (h1p:1<p) (hV:aaB p V) :
  FnE Tryz.prog 90 [pt gV,pt gG,pt gC] [⟨gV,36,[.slice (some ⟨bA,oA,none⟩) n cV]⟩,⟨gG,26,zJ p q g h⟩,⟨gC,3,[.int .i64 (c:Int)]⟩] (fun w=>Seg w bA oA (V.flatMap zb)∧bA<w.heap.size∧bA ∉ [gV,gG,gC]) (CkP p q V n c):=by
 refine FnE.enter (n:=62) Tryz.func90 rfl rfl rfl ?_;rintro w ⟨hsA,hlA,hbA⟩;have h0q:0<q:=by omega
 have ho:ofZ q ((1:Nat):Int)=ofZ q 1:=rfl;have hOf:Fn Tryz.prog 85 [yh p q g h,.int .i64 1] Tr (Is (ze (ofZ q 1))):=lM p q g h 1 (by omega) hq;have hol:ofZ q 1<q:=kK _ h0q;have holb:=Nat.lt_trans hol hq
 repeat (first|refine Tw ?_|(refine Tm ?_;intro _)|exact Tz)
 refine WC.loopI (σ:=Nat) (fun i=>i≤n) (fun i=>[(0,pt gV),(1,pt gG),(2,pt gC),(9,.slice (some ⟨bA,oA,none⟩) n cV),(10,.int .i64 (n:Int)),(11,.int .i64 (i:Int))]) (fun _=>[⟨gV,36,[.slice (some ⟨bA,oA,none⟩) n cV]⟩,⟨gG,26,zJ p q g h⟩,⟨gC,3,[.int .i64 (c:Int)]⟩]) (fun i=>n - i) 0 (fun i hi=>?_) (Nat.zero_le _)
 try dsimp only at hi ⊢
 by_cases hlt:i<n
 ·obtain⟨x,hx⟩ : ∃ y,V[i]?=some y:=⟨_,List.getElem?_eq_getElem (by omega)⟩;have hxm:=List.mem_of_getElem? hx;have hxb:=hV.lt x hxm;have hcA:cut (V.flatMap zb) (oA+i*4 - oA) 4=zb x:=by rw[Nat.add_sub_cancel_left];exact vR (f:=zb) (k:=4) (fun _=>rfl) hx
  have hadd2:IntKind.i64.wrap ((i:Int)+1)=((i+1:Nat):Int):=zm (by omega) (by omega) (by omega);have hE:=uk p q g h x 0 hxb zp hp;rw[hV.may x hxm] at hE;simp only[rE,okV,okE,if_true,if_pos] at hE;generalize x ^ 0%p=y at hE;have hM:=se y
  repeat (first|refine Tw ?_|(refine Tm ?_;intro _)|exact Tz)
  refine WC.dT rfl (by omega) ?_
  repeat (first|refine WO.does (za (o':=oA+i*4) rfl rfl hlt rfl) ?_|refine WO.does (zj (vs:=zb x) (hs:=hsA) (hle:=Nat.le_add_right _ _) (hc:=hcA) (hb:=hbA)) ?_|refine WO.does (zi rfl rfl hadd2) ?_|refine Ta ?_|(refine Tm ?_;intro _)|refine WO.acall (hc:=hE) (k:=?_)|refine WO.acall (hc:=hM) (k:=?_)|refine Tc ?_|exact Tz)
  exact WX.metI (i+1) (hs:=⟨by show i+1≤n;omega,by show n - (i+1)<n - i;omega⟩)
 ·have hi2:i=n:=by omega
  subst hi2;clear hi hlt;have hsub:IntKind.i64.wrap ((i:Int) - (c:Int))=((i - c:Nat):Int):=by rw[i64_in (by omega) (by omega)];omega
  repeat (first|refine Tw ?_|(refine Tm ?_;intro _)|exact Tz)
  refine WC.dF rfl (by omega) ?_
  repeat (first|refine WO.does (zM rfl rfl hsub) ?_|refine Ta ?_|(refine Tm ?_;intro _)|refine Tc ?_|exact Tz)
  refine WC.loopI (σ:=Nat) (fun k=>k≤i - c∧(0<k→oI q i=true)∧∀ j,j<k→prD p V (dwL q i (pkN q j))=ofZ q 1) (fun k=>[(0,pt gV),(1,pt gG),(2,pt gC),(26,.int .i64 ((i - c:Nat):Int)),(27,.int .i64 (k:Int))]) (fun _=>[⟨gV,36,[.slice (some ⟨bA,oA,none⟩) i cV]⟩,⟨gG,26,zJ p q g h⟩,⟨gC,3,[.int .i64 (c:Int)]⟩]) (fun k=>(i - c) - k) 0 (fun k hk=>?_) ⟨Nat.zero_le _,fun h=>absurd h (by decide),fun j hj=>absurd hj (Nat.not_lt_zero _)⟩
  try dsimp only at hk ⊢
  obtain⟨hk,hall,hpr⟩:=hk
  by_cases hlt:k<i - c
  ·have hadd2:IntKind.i64.wrap ((k:Int)+1)=((k+1:Nat):Int):=zm (by omega) (by omega) (by omega)
   repeat (first|refine Tw ?_|(refine Tm ?_;intro _)|exact Tz)
   refine WC.dT rfl (by omega) ?_
   repeat (first|refine WO.does (zi rfl rfl hadd2) ?_|refine Ta ?_|(refine Tm ?_;intro _)|(refine WO.makes (zV (l:=k+1) (c:=k+1) rfl rfl (Nat.le_refl _) (by omega) (by omega)) ?_;intro _)|refine WO.acall (hc:=hOf) (k:=?_)|refine Tc ?_|exact Tz)
   rename_i gP;refine WO.stores (zD (vs:=zb (ofZ q 1)) (cs':=(pkN q k).flatMap zb) (hc:=bM) (hle:=aal)) ?_;have hW:=abD p q g h (pkN q k) i gP (k+1) hn1 hn7 hnq hq (dv (by omega) (by omega)) (fun a ha=>Nat.lt_trans (am h0q a ha) hq) (by rw[fg];omega);rw[fg] at hW
   repeat (first|refine Tw ?_|(refine Tm ?_;intro _)|exact Tz)
   refine WO.calls (fs:=[]) (cs:=[]) hW rfl rfl rfl (fun w1 hm=>?_) (fun u N hu=>?_)
   ·have hs:Seg w1 gP 0 ((pkN q k).flatMap zb):=Hs.sg hm;exact⟨hs,RdF.lt (f:=zb) (k:=3) (fun _=>rfl) (RdF.ownD (c:=0) hs rfl) (by unfold pkN;simp)⟩
   rcases hu with ⟨hal,gW,rfl,rfl⟩|⟨hal,rfl,rfl⟩
   ·try dsimp only[List.cons_append,List.nil_append]
    have hm0:=se 0;have hPd:=qJ p q g h hp h1p V (dwL q i (pkN q k)) hV (fun v hv=>Nat.lt_trans (abQ h0q v hv) hq) (by rw[im,hVn]) (by rintro rfl;rw[← hVn] at hn1;exact absurd hn1 (by decide)) (some ⟨bA,oA,none⟩) (some ⟨gW,0,none⟩) cV i (by omega);rw[hVn] at hPd;have hRl:=Nat.lt_trans (af (zs:=V) (ws:=dwL q i (pkN q k)) h1p) hp;generalize hR:prD p V (dwL q i (pkN q k))=R at hPd hRl;have hmR:=se R
    repeat (first|refine Ta ?_|(refine Tm ?_;intro _)|refine WO.acall (hc:=hm0) (k:=?_)|refine Tc ?_|exact Tz)
    refine WC.adraw 10 (k:=?_)
    iterate 3 (first|refine Da ?_|refine Dc ?_)
    refine DQ.acallM (hc:=hPd) (hR:=fun w1 hm=>⟨RdF.ownD (hsA.mod hm.mod hbA) hVn,RdF.ownD (Hs.sg hm) im⟩) (k:=?_)
    iterate 2 (first|refine Da ?_|refine Dc ?_)
    refine DQ.acallM (hc:=hmR) (hR:=fun _ _=>trivial) (k:=?_)
    iterate 1 (first|refine Da ?_|refine Dc ?_)
    refine DQ.acallM (hc:=hOf) (hR:=fun _ _=>trivial) (k:=?_)
    iterate 1 (first|refine Da ?_|refine Dc ?_)
    refine DQ.anil (k:=?_);intro sx _
    by_cases hRe:R=ofZ q 1
    ·repeat (first|refine Tw ?_|(refine Tm ?_;intro _)|exact Tz)
     refine WC.dF rfl (by simpa using hRe) ?_
     repeat (first|refine WO.does (zi rfl rfl hadd2) ?_|refine Ta ?_|(refine Tm ?_;intro _)|refine Tc ?_|exact Tz)
     exact WX.metI (k+1) (hs:=⟨⟨by omega,fun _=>hal,fun j hj=>by
      by_cases hjk:j=k
      ·subst hjk;rw[hR];exact hRe
      ·exact hpr j (by omega)⟩,by show i - c - (k+1)<i - c - k;omega⟩)
    ·have hbad:duB p q i c V=false:=by
      unfold duB;rw[decide_eq_false (by omega),Bool.false_or,Bool.and_eq_false_iff];right;rw[List.all_eq_false];exact⟨k,List.mem_range.2 hlt,by rw[hR];simpa using hRe⟩
     repeat (first|refine Tw ?_|(refine Tm ?_;intro _)|exact Tz)
     refine WC.dT rfl (by simpa using hRe) ?_
     repeat (first|refine WO.does (vm tP rfl) ?_|refine Ta ?_|(refine Tm ?_;intro _)|refine Tc ?_|exact Tz)
     refine WO.panics rfl ?_
     repeat (first|refine WX.pseq ?_|refine WX.pblk ?_)
     exact WX.pfn [] Lle.nil (.inr ⟨hbad,0,rfl⟩)
   ·try dsimp only[List.cons_append,List.nil_append]
    have hbad:duB p q i c V=false:=by
     unfold duB;rw[decide_eq_false (by omega),hal];rfl
    repeat (first|refine Tw ?_|(refine Tm ?_;intro _)|exact Tz)
    refine WO.callsEV (fs:=[]) (cs:=[]) (M:=[]) (hc:=eo 0 7 (by decide)) rfl rfl rfl (.refl _) (fun _ _=>trivial) (fun v N hq=>by cases hq) (fun ch N hq=>?_);cases hq
    repeat (first|refine WX.pseq ?_|refine WX.pblk ?_)
    exact WX.pfn [] Lle.nil (.inr ⟨hbad,7,rfl⟩)
  ·have hkc:k=i - c:=by omega
   have hgood:duB p q i c V=true:=by
    unfold duB
    by_cases hic:i≤c
    ·rw[decide_eq_true hic,Bool.true_or]
    ·rw[hall (by omega),Bool.true_and,Bool.or_eq_true];right;rw[List.all_eq_true];intro j hj;have:=hpr j (by rw[hkc];exact List.mem_range.1 hj);simpa using this
   repeat (first|refine Tw ?_|(refine Tm ?_;intro _)|exact Tz)
   refine WC.dF rfl (by omega) ?_
   repeat (first|refine Tw ?_|(refine Tm ?_;intro _)|exact Tz)
   refine WX.un (fun a w2 h1 h2 h3 h4=>?_);exact⟨h1,.tuple #[],results_none rfl _ _ _,(by intro e;cases e),_,h4,.inl ⟨hgood,_,rfl⟩⟩
theorem dM:∀ e N,CkP p q V n c e N→(∃ v,e=.returned v)∨(∃ k,e=.panicked [{ v:=uF k,recovered:=false }]):=fun e N h=>by
 rcases h with ⟨_,h⟩|⟨_,h⟩
 ·exact .inl h
 ·exact .inr h
def CkA (b:Bool):Value→List Ent→Prop:=fun v N=>∃ e:Int,v=.tuple #[.bool b,.int .i64 e]∧(b=true→e=0)∧N=[]
theorem dt (hVn:V.length=n) (hn1:1≤n) (hn7:n≤7) (hc1:1≤c) (hcn:c≤n) (hnq:n<q) (hq:q<zc) (hp:p<zc) (h1p:1<p) (hV:aaB p V) :
  Fn Tryz.prog 50 [yh p q g h,.slice (some ⟨bA,oA,none⟩) n cV,.int .i64 (c:Int)] (fun w=>Seg w bA oA (V.flatMap zb)∧bA<w.heap.size) (CkA (duB p q n c V)):=by
 have hSt:=fun gV gG gC=>nO (dy p q g h V n cV c bA oA gV gG gC hVn hn1 hn7 hc1 hcn hnq hq hp h1p hV) (fun w w' hR hm=>⟨hR.1.mod hm hR.2.2,Nat.lt_of_lt_of_le hR.2.1 hm.size,hR.2.2⟩) (dM p q V n c);refine Fn.enter Tryz.func50 rfl rfl rfl ?_;intro w hw;obtain⟨hwS,hwl⟩:=hw
 repeat (first|refine WO.does (yy rfl rfl (by omega)) ?_|refine WO.does (zC rfl rfl (by omega)) ?_|refine WO.does (zO rfl rfl) ?_|refine Ta ?_|(refine Tm ?_;intro _)|refine Tc ?_|exact Tz)
 rename_i gG gV gC;refine WO.mine (fun hmn=>?_);have hnot:bA ∉ [gV,gG,gC]:=by
  intro hm;have key:∀ k∈[gV,gG,gC],w.heap.size≤k:=by
   intro k hk;simp only[List.mem_cons,List.not_mem_nil,or_false] at hk
   rcases hk with rfl|rfl|rfl<;>exact (hmn ⟨_,_,_⟩ (Hs.mem Hs.a)).resolve_right (by simp)
  have:=key bA hm;omega
 clear hmn;refine WO.callsL (hc:=hSt gV gG gC) (hp:=.cons Pk.a (.cons Pk.a (.cons Pk.a .nil))) (fun w' hm=>⟨hwS.mod hm.mod (by simp),Nat.lt_of_lt_of_le hwl hm.mod.size,hnot⟩) (fun v N hv=>?_)
 rcases hv with ⟨rfl,u,hu⟩|⟨k,rfl,hu⟩
 ·obtain hall:duB p q n c V=true:=by
   rcases hu with ⟨h1,_⟩|⟨_,_,h2⟩
   ·exact h1
   ·cases h2
  rw[hall]
  repeat (first|refine WO.does (zB rfl rfl rfl) ?_|refine Ta ?_|(refine Tm ?_;intro _)|refine Tc ?_|exact Tz)
  exact WX.ret2 rfl (by exact zr rfl) (by exact zr rfl) [] Lle.nil ⟨0,rfl,fun _=>rfl,rfl⟩
 ·obtain hall:duB p q n c V=false:=by
   rcases hu with ⟨_,_,h2⟩|⟨h1,_⟩
   ·cases h2
   ·exact h1
  rw[hall]
  repeat (first|refine WO.does (yv rfl rfl (by decide)) ?_|refine Ta ?_|(refine Tm ?_;intro _)|refine Tc ?_|exact Tz)
  exact WX.ret2 rfl (by exact zr rfl) (by exact zr rfl) [] Lle.nil ⟨k,rfl,(fun h=>by cases h),rfl⟩
end
end Sx
end
section
open Go Go.RowKit Go.BigFrame
namespace Sx
theorem kO (a b:Nat):Tryz.prog.keyLits 3 42 (yj a b)=some [.int .u64 ((wd 0 a:Nat):Int),.int .u64 ((wd 1 a:Nat):Int),.int .u64 ((wd 2 a:Nat):Int),.int .u64 ((wd 3 a:Nat):Int),.int .u64 ((wd 0 b:Nat):Int),.int .u64 ((wd 1 b:Nat):Int),.int .u64 ((wd 2 b:Nat):Int),.int .u64 ((wd 3 b:Nat):Int)]:=by
 have c1:Tryz.prog.cellsOf 42=8:=by kernel_rfl
 have c2:Tryz.prog.cellsOf 24=4:=by kernel_rfl
 have k1:=uh a;have k2:=uh b;unfold Program.keyLits;simp[Tryz.underlying42,c1,c2,zb] at k1 k2 ⊢;simp[k1,k2]
theorem dX {a b c:Nat} (ha:a<zc) (hb:b<zc) (w:World):(Op.equalIn 10000 42 (.agg (yj a c).toArray) (.agg (yj b c).toArray)).run Tryz.prog w=.ok (decide (a=b)) w:=by
 obtain⟨r,hr,hiff⟩:=run_equalIn_deep (P:=Tryz.prog) 9997 3 42 (by kernel_rfl) w 3 3 (.agg (yj a c).toArray) (.agg (yj b c).toArray) _ _ (by kernel_rfl) (by kernel_rfl) (kO a c) (kO b c);have e:r=decide (a=b):=by
  rw[Bool.eq_iff_iff,hiff];simp only[decide_eq_true_eq,List.cons.injEq,Lit.int.injEq,true_and,and_true,Int.ofNat_inj];constructor
  ·rintro ⟨h0,h1,h2,h3⟩;exact aR ha hb h0 h1 h2 h3
  ·rintro rfl;exact⟨rfl,rfl,rfl,rfl⟩
 rw[hr,e]
theorem bK:over (zb 0) (0*1) (cellsOf (Value.int .u64 1))=zb 1:=by kernel_rfl
section
attribute [local irreducible] wd
variable {w0:World} {gs:List Nat} {K:List (Nat × Value)} {L:List Ent}
theorem bv {x y:Operand} {yt ty:TypeId} {a b c:Nat} (hx:ev K x=some (.agg (yj a c).toArray)) (hy:ev K y=some (.agg (yj b c).toArray)) (ha:a<zc) (hb:b<zc) :
  Does Tryz.prog w0 gs K L (.binOp .eql 42 x y yt) ty (.bool (decide (a=b))):=by
 intro ac w hk _ o ho _;simp only[execOp,ho,hk.eval hx,hk.eval hy,Sem.run_bind,nr,Result.andThen_ok,run_eql_struct,dX ha hb,Sem.run_pure]
theorem mX {x y:Operand} {yt ty:TypeId} {a:Nat} {r:Bool} (hx:ev K x=some (ze a)) (hy:ev K y=some (.agg (over (zb 0) (0*1) (cellsOf (Value.int .u64 1))).toArray)) (ha:a<zc) (hr:decide (a=1)=r) :
  Does Tryz.prog w0 gs K L (.binOp .eql 24 x y yt) ty (.bool r):=yZ hx (by rw[hy,bK]) ha yz hr
end
attribute [local irreducible] wd DQ DQS WO WC WX WI
def nn (p q g key C S:Nat) (H:List Nat):Bool:=gIn p q key && !decide (key=1) && ([C,S].all fun x=>zF x x q) && decide (C=eC q key (prD p [g,key] [S,(0+q - C)%q]) H)
section
variable (p q g h:Nat)
theorem jH (key C S:Nat) (H:List Nat) (hp:p<zc) (hq:q<zc) (hg:g<zc) (hk:key<zc) (hC:C<zc) (hS:S<zc) (hH:∀ b∈H,b<256) (hl:H.length=32) (hgm:yC p g=true) :
  Fn Tryz.prog 54 [yh p q g h,ze key,.agg (byC H).toArray,.agg (yj C S).toArray] Tr (Is (.bool (nn p q g key C S H))):=by
 have hI:=tY p q g h key hk hp hq;have hX:=fun b=>f9 p q g h [C,S] (some ⟨b,0,none⟩) 2 (by intro a ha;simp only[List.mem_cons,List.not_mem_nil,or_false] at ha;rcases ha with rfl|rfl<;>assumption) (by show 2≤1099511627776;omega) hq;have hbH:(byC H).length=32:=by rw[zf,hl]
 cases e1:gIn p q key with
 | false =>
  rw[e1] at hI;rw[show nn p q g key C S H=false by unfold nn;rw[e1];rfl];refine Fn.enter Tryz.func54 rfl rfl rfl ?_;intro w hw
  repeat (first|refine Ta ?_|(refine Tm ?_;intro _)|refine WO.acall (hc:=hI) (k:=?_)|refine Tc ?_|exact Tz)
  done
 | true =>
 rw[e1] at hI;cases e2:decide (key=1) with
 | true =>
  rw[show nn p q g key C S H=false by unfold nn;rw[e1,e2];rfl];refine Fn.enter Tryz.func54 rfl rfl rfl ?_;intro w hw
  repeat (first|refine Ta ?_|(refine Tm ?_;intro _)|refine WO.acall (hc:=hI) (k:=?_)|refine WO.does (mX rfl rfl hk e2) ?_|refine Tc ?_|exact Tz)
  done
 | false =>
 cases e3:([C,S].all fun x=>zF x x q) with
 | false =>
  rw[e3] at hX;rw[show nn p q g key C S H=false by unfold nn;rw[e1,e2,e3];rfl];refine Fn.enter Tryz.func54 rfl rfl rfl ?_;intro w hw
  repeat (first|refine Ta ?_|(refine Tm ?_;intro _)|refine WO.acall (hc:=hI) (k:=?_)|refine WO.does (mX rfl rfl hk e2) ?_|(refine WO.makes (zd (cs:=zb C++zb S) rfl (by decide) rfl) ?_;intro _)|refine WO.acallR (hc:=hX _) (hR:=fun w1 hm=>RdF.seg (f:=zb) (xs:=[C,S]) (r:=[]) (Hs.sg hm)) (k:=?_)|refine Tc ?_|exact Tz)
  done
 | true =>
 rw[e3] at hX;have e4:zF C C q=true∧zF S S q=true:=by simpa using e3
 obtain⟨hq1,hCq,_⟩:=zG e4.1;have hU:=ad p q g h 0 C zp hC hq;rw[show zF 0 C q=true by simp[zF,hq1,hCq];omega] at hU;have hBq:(0+q - C)%q<q:=Nat.mod_lt _ (by omega);rw[show nn p q g key C S H=decide (C=eC q key (prD p [g,key] [S,(0+q - C)%q]) H) by unfold nn;rw[e1,e2,e3];rfl];have h1p:1<p:=(yI hgm).1;have hPd:=fun b1 b2=>qJ p q g h hp h1p [g,key] [S,(0+q - C)%q] ⟨by simp;exact⟨hg,hk⟩,by simp;exact⟨hgm,vy e1⟩⟩ (by rintro v hv;simp only[List.mem_cons,List.not_mem_nil,or_false] at hv;rcases hv with h|h<;>rw[h]<;>first|exact hS|exact Nat.lt_trans hBq hq) rfl (by simp) (some ⟨b1,0,none⟩) (some ⟨b2,0,none⟩) 2 2 (by simp);have hRl:=Nat.lt_trans (af (zs:=[g,key]) (ws:=[S,(0+q - C)%q]) h1p) hp;generalize prD p [g,key] [S,(0+q - C)%q]=R at *;generalize (0+q - C)%q=B at *;have hCh:=fun gG gK gH=>kG p q g h key R gG gK gH H hq (by omega) hH hl;have hcl:eC q key R H<zc:=Nat.lt_trans (vM (by omega) _ _) hq;have hSg:=fA p q g h key H hl;generalize eC q key R H=c at *;refine Fn.enter Tryz.func54 rfl rfl rfl ?_;intro w hw
 repeat (first|refine Ta ?_|(refine Tm ?_;intro _)|refine WO.acall (hc:=hI) (k:=?_)|refine WO.does (mX rfl rfl hk e2) ?_|(refine WO.makes (zd (cs:=zb C++zb S) rfl (by decide) rfl) ?_;intro _)|refine WO.acallR (hc:=hX _) (hR:=fun w1 hm=>RdF.seg (f:=zb) (xs:=[C,S]) (r:=[]) (Hs.sg hm)) (k:=?_)|refine WO.acall (hc:=hU) (k:=?_)|(refine WO.makes (zd (cs:=zb g++zb key) rfl (by decide) rfl) ?_;intro _)|(refine WO.makes (zd (cs:=zb S++zb B) rfl (by decide) rfl) ?_;intro _)|refine WO.acallR (hc:=hPd _ _) (hR:=fun w1 hm=>⟨RdF.seg (f:=zb) (xs:=[g,key]) (r:=[]) (Hs.sg hm),RdF.seg (f:=zb) (xs:=[S,B]) (r:=[]) (Hs.sg hm)⟩) (k:=?_)|refine Tc ?_|exact Tz)
 refine WC.adraw 16 (k:=?_)
 iterate 6 (first|refine Da ?_|refine Dc ?_)
 refine DQ.does (fun s _=>zy (vs:=byC H) (hc:=yd hbH) (hl:=hbH)) Dp.const ?_
 refine DQ.callsE (fs:=fun _=>[]) (cs:=fun _=>[]) (R:=fun _=>Tr) (vf:=fun _ x=>.func (.func 118) #[] #[pt (x 0),pt (x 1),pt (x 2)]) (Nf:=fun _ x=>[⟨x 2,72,byC H⟩,⟨x 1,24,zb key⟩,⟨x 0,26,zJ p q g h⟩]) (S:=fun _ _=>True) (fun _=>[]) (fun _=>.nil)
  (fun _=>⟨fun _=>0,trivial⟩) (fun _ _=>hSg) (fun _=>rfl) (fun _=>rfl) (fun _=>rfl) (fun _ _ w hm=>trivial) Dp.const Dp.const Dp.const ?_
 try dsimp only[List.map_cons,List.map_nil,List.cons_append,List.nil_append]
 iterate 1 (first|refine Da ?_|refine Dc ?_)
 refine DQ.callsE (fs:=fun _=>[]) (cs:=fun s=>[pt (s 7 0),pt (s 7 1),pt (s 7 2)]) (R:=fun s w=>Seg w (s 7 0) 0 (zJ p q g h)∧Seg w (s 7 1) 0 (zb key)∧Seg w (s 7 2) 0 (byC H)) (vf:=fun _ _=>ze c) (Nf:=fun _ _=>[]) (S:=fun _ _=>True) (fun s=>[⟨s 7 2,72,byC H⟩,⟨s 7 1,24,zb key⟩,⟨s 7 0,26,zJ p q g h⟩])
  (fun s=>.cons 7 (by repeat (first|exact .head _|apply List.Mem.tail)) (by decide +kernel) (.cons 7 (by repeat (first|exact .head _|apply List.Mem.tail)) (by decide +kernel) (.cons 7 (by repeat (first|exact .head _|apply List.Mem.tail)) (by decide +kernel) .nil)))
  (fun _=>⟨fun _=>0,trivial⟩) (fun s _=>(hCh (s 7 0) (s 7 1) (s 7 2)).ex) (fun _=>rfl) (fun _=>rfl) (fun _=>rfl) (fun s _ w hm=>⟨Hs.seg (.there (.there .here)) hm,Hs.seg (.there .here) hm,Hs.seg .here hm⟩) Dp.const Dp.const Dp.const ?_
 try dsimp only[List.map_cons,List.map_nil,List.cons_append,List.nil_append]
 iterate 3 (first|refine Da ?_|refine Dc ?_)
 refine DQ.does (fun s _=>bv (a:=C) (b:=c) (c:=S) rfl rfl hC hcl) Dp.const ?_
 iterate 2 (first|refine Da ?_|refine Dc ?_)
 refine DQ.anil (k:=?_);intro sx _
 repeat (first|refine Tw ?_|(refine Tm ?_;intro _)|exact Tz)
 done
end
end Sx
end
end Go.Proofs.YtegjemedanccoaaGreatDoor
