/- Part 27 of the proof: RfP, RfU -/
import Derived.Test.YtmhligfnchegdaaGreatDoorM25
import Derived.Test.YtmhligfnchegdaaGreatDoorM10
import Derived.Test.YtmhligfnchegdaaGreatDoorM11
import Derived.Test.YtmhligfnchegdaaGreatDoorM26
import Derived.Test.YtmhligfnchegdaaGreatDoorM22
set_option linter.unusedSimpArgs false
set_option linter.unusedVariables false
namespace Go.Proofs.YtmhligfnchegdaaGreatDoor
open Go Go.RowKit Go.BigFrame
namespace Sx
attribute [local irreducible] wd DQ DQS WO WC WX
section
variable {P:Program} {w0:World} {gs:List Nat} {K:List (Nat × Value)} {L:List Ent}
theorem does_appNil {st xt ty e bts:Nat} {z0:Value} {x y:Operand} {v:Value} [SlT P st e 1] [SlT P xt e 1] [ElT P e bts [z0]] (hx:ev K x=some (.slice none 0 0)) (hy:ev K y=some v) (hr:Rds w0 gs L v 0 []) :
    Does P w0 gs K L (.call { callee:=.builtin .append,args:=#[x,y],argTypes:=#[st,xt] }) ty (.slice none 0 0):=by
  intro a w hk hme o hop _
  obtain⟨dst,op,ty',pos,after,guard⟩:=o
  subst hop
  have hu:∀ w,(underlying st).run P w=.ok (.slice e) w:=fun w=>by simp[underlying,SlT.under (P:=P) (t:=st)]
  have hu2:∀ w,(underlying xt).run P w=.ok (.slice e) w:=fun w=>by simp[underlying,SlT.under (P:=P) (t:=xt)]
  have hsz:∀ w,(sizeOf e).run P w=.ok 1 w:=SlT.size (P:=P) (t:=st)
  rw[run_builtin hk (show evs K [x,y]=some [.slice none 0 0,v] by simp[evs,hx,hy]),builtin_append]
  have hf:=hr.first (P:=P) (size:=1) rfl hme
  simp only[Sem.run_bind,Builtin.append_,List.getElem?_toArray,List.getElem?_cons_zero,List.getElem?_cons_succ,hu,Result.andThen_ok,hsz,hu2,Sem.run_pure,hr.len,Bool.false_eq_true,if_false]
  rw[if_pos (by decide)]
  simp only[Bool.not_false,if_true,Sem.run_bind,hf,Result.andThen_ok,Bool.false_eq_true,if_false,Sem.run_pure]
end
def leN (i x:Nat):List Nat:=(List.range i).map fun j=>x / 256 ^ j%256
theorem leN_length (i x:Nat):(leN i x).length=i:=by simp[leN]
theorem leN_succ (i x:Nat):leN (i+1) x=leN i x++[x / 256 ^ i%256]:=by simp[leN,List.range_succ]
theorem leN_get {i j:Nat} (x:Nat) (h:j<i):(leN i x)[j]?=some (x / 256 ^ j%256):=by simp[leN,h]
theorem be_leN {w i x:Nat} (h:i<w):(be w x)[w - (i+1)]?=some (x / 256 ^ i%256):=by
  rw[be_get (by omega),show w - 1 - (w - (i+1))=i by omega,show (256:Nat)=2 ^ 8 by decide,← Nat.pow_mul]
def lowV (g c:Nat):Nat→Value
  | 0=>.slice none 0 0
  | i+1=>.slice (some ⟨g,0,none⟩) (i+1) c
def lowL (g x:Nat) (r:List Nat) (L:List Ent):Nat→List Ent
  | 0=>L
  | i+1=>⟨g,5,byC (leN (i+1) x++r)⟩::L
theorem Lle.same:∀ {L:List Ent},Lle L L
  | []=>trivial
  | _::_=>⟨_,_,.here,rfl,Lle.same⟩
theorem Lle.skip {e:Ent} {L:List Ent}:∀ {L' : List Ent},Lle L' L→Lle L' (e::L)
  | [],_=>trivial
  | _::_,⟨cs,L1,h1,h2,h3⟩=>⟨cs,e::L1,.there h1,h2,Lle.skip h3⟩
def outV (o:Option (Nat × Nat × List Nat)) (n:Nat):Value:=match o with|none=>.slice none 0 0|some (g,c,_)=>.slice (some ⟨g,0,none⟩) n c
def outL (o:Option (Nat × Nat × List Nat)) (X:List Nat):List Ent:=match o with|none=>[]|some (g,_,r)=>[⟨g,5,byC (X++r)⟩]
def outOk (o:Option (Nat × Nat × List Nat)) (X:List Nat):Prop:=match o with|none=>X=[]|some (_,c,r)=>(X++r).length=c∧c<9223372036854775808
section
variable {P:Program} {w0:World} {gs:List Nat} {n:Nat} {ops:List Oper} {Q:Exit→Act→World→Prop} {K:List (Nat × Value)} {L:List Ent} {rest:List Oper}
variable {d:Nat} {ty:TypeId} {pos:String} {after:Array Edge} {gd:Option (Nat × Bool)}
theorem WO.appFirst {st xt bts:Nat} {x y:Operand} {v:Value} {B:List Nat} [SlT P st 5 1] [SlT P xt 5 1] [ElT P 5 bts [Value.int .u8 0]] (hx:ev K x=some (.slice none 0 0)) (hy:ev K y=some v) (hr:Rds w0 gs L v B.length (byC B))
    (hb:bts≠0) (hnc:B.length*bts≤140737488355328) (hl:B.length<9223372036854775808)
    (k:∀ o,outOk o B→WO P w0 gs n ops Q ((d,outV o B.length)::K) (outL o B++L) rest) (hd:Nat.blt d n=true:=by rfl) (hw:wk ops K gd=some true:=by rfl) :
    WO P w0 gs n ops Q K L (⟨some d,.call { callee:=.builtin .append,args:=#[x,y],argTypes:=#[st,xt] },ty,pos,after,gd⟩::rest):=by
  by_cases h0:B=[]
  · subst h0
    exact WO.does (does_appNil hx hy hr) (k none rfl) hd hw
  · have hp:0<B.length:=List.length_pos_iff.2 h0
    refine WO.news (app_new (z:=[Value.int .u8 0]) (n:=B.length) hx hy (ys:=[]) Rds.nil rfl hr (by simp[byC_length]) (by omega) (by omega) (by simpa using growslice_fits (by omega) hnc) hb rfl) (fun s hs=>?_) hd hw
    obtain⟨h1,h2⟩:=hs
    rw[Nat.zero_add] at h1
    have:=k (some (s 0,s 1,List.replicate (s 1 - B.length) 0)) ⟨by rw[List.length_append,List.length_replicate];omega,h2⟩
    simpa [outV,outL,byC_append,mkz_byC] using this
end
set_option maxHeartbeats 2000000 in
theorem r_Put (B:List Nat) (x wd c:Nat) (p:Option Addr) (h1:1≤wd) (h8:wd≤8) (hx:x<18446744073709551616) (hl:B.length≤549755813888) :
    Fn Tryz.prog 131 [.slice p B.length c,.int .u64 (x:Int),.int .i64 (wd:Int)] (fun w=>Rd (.slice p B.length c) B.length (byC B) w) (NewZ 5 (B++be wd x)):=by
  have hTl:(B++be wd x).length=B.length+wd:=by rw[List.length_append,be_length]
  have hT0:(B++be wd x).take B.length=B:=List.take_left
  have hTg:∀ i,i<wd→(B++be wd x)[B.length+(wd - (i+1))]?=some (x / 256 ^ i%256):=fun i hi=>by
    rw[List.getElem?_append_right (by omega),show B.length+(wd - (i+1)) - B.length=wd - (i+1) by omega];exact be_leN hi
  generalize B++be wd x=T at *
  have hmax:(if (wd:Int) > 0 then (wd:Int) else 0)=(wd:Int):=if_pos (by omega)
  have hmin:(if (wd:Int)<8 then (wd:Int) else 8)=(wd:Int):=by split<;>omega
  refine Fn.enter Tryz.func131 rfl rfl rfl ?_
  intro w hw
  repeat (first|refine Ta ?_|(refine Tm ?_;intro _)|refine Tc ?_|exact Tz)
  refine WO.appFirst rfl rfl hw.rds (by decide) (by omega) (by omega) (fun o ho=>?_)
  rw[List.append_nil]
  repeat (first|refine Ta ?_|(refine Tm ?_;intro _)|refine WO.does (does_max rfl rfl hmax) ?_|refine WO.does (does_min rfl rfl hmin) ?_|refine Tc ?_|exact Tz)
  refine WC.loopI (σ:=Nat × Nat × Nat × List Nat) (fun s=>s.1≤wd∧(0<s.1→(leN s.1 x++s.2.2.2).length=s.2.2.1∧s.2.2.1<9223372036854775808)) (fun s=>[(1,.int .u64 ((x / 256 ^ s.1:Nat):Int)),(6,.slice none 0 0),(7,outV o B.length),(8,.int .i64 (wd:Int)),(9,lowV s.2.1 s.2.2.1 s.1),(10,.int .i64 (s.1:Int))]) (fun s=>lowL s.2.1 x s.2.2.2 (outL o B) s.1) (fun s=>wd - s.1) (0,0,0,[]) (fun s hs=>?_) ⟨Nat.zero_le _,fun h=>by omega⟩ (by
      dsimp only
      rw[Nat.pow_zero,Nat.div_one]
      repeat (first|exact Kle.nil|refine Kle.cons rfl rfl ?_)) (by repeat (first|exact Lle.nil|exact Lle.same|refine Lle.cons (by repeat (first|exact Pk.here|apply Pk.there)) (by rfl) ?_|refine Lle.skip ?_))
  obtain⟨i,g,cl,rl⟩:=s
  obtain⟨hi,hs⟩:=hs
  dsimp only at hi hs ⊢
  by_cases hlt:i<wd
  · have hr:=rem_nat (x / 256 ^ i) 256
    have hcv:=u8_nat (x / 256 ^ i%256)
    rw[Nat.mod_mod] at hcv
    have hq:=quo_u64 (x / 256 ^ i) 256 (Nat.lt_of_le_of_lt (Nat.div_le_self _ _) hx)
    rw[Nat.div_div_eq_div_mul,← Nat.pow_succ] at hq
    have hsc:=leN_succ i x
    generalize hy' : x / 256 ^ (i+1)=y' at *
    have hyv:Value.int .u64 ((y' : Nat):Int)=Value.int .u64 ((x / 256 ^ (i+1):Nat):Int):=by rw[hy']
    generalize x / 256 ^ i%256=z at *
    generalize x / 256 ^ i=y at *
    repeat (first|refine Ta ?_|(refine Tm ?_;intro _)|refine Tc ?_|exact Tz)
    refine WC.dT rfl (by omega) ?_
    repeat (first|refine Ta ?_|(refine Tm ?_;intro _)|refine WO.does (does_rem rfl rfl (by decide) hr) ?_|refine WO.does (does_conv rfl hcv) ?_|(refine WO.makes (makes_build (cs:=[.int .u8 (z:Int)]) rfl (by decide) rfl) ?_;intro g2)|refine Tc ?_|exact Tz)
    have hu:∀ i,i<wd→i<1099511627776:=fun i hi=>by omega
    cases i with
    | zero =>
      refine WO.news (app_new (z:=[Value.int .u8 0]) (n:=1) rfl rfl (ys:=[]) Rds.nil rfl (Rds.own (m:=1) Hs.here rfl) rfl (by decide) (by decide) (by decide) (by decide) rfl) (fun s hs=>?_)
      obtain⟨hs1,hs2⟩:=hs
      generalize s 0=g'
      generalize s 1=c' at *
      rw[List.nil_append]
      repeat (first|refine Ta ?_|(refine Tm ?_;intro _)|refine WO.does (does_quo rfl rfl (by decide) hq) ?_|refine Tc ?_|exact Tz)
      refine WX.metI (1,g',c',List.replicate (c' - (0+1)) 0) (hk:=(by repeat (first|exact Kle.nil|refine Kle.cons rfl (by first|rfl|exact hyv) ?_))) (hl:=(by refine Lle.cons (by repeat (first|exact Pk.here|apply Pk.there)) (by show _=byC (leN (0+1) x++List.replicate (c' - (0+1)) 0);rw[hsc,byC_append,← mkz_byC];rfl) (Lle.skip Lle.same))) (hs:=⟨⟨by show 1≤wd;omega,fun _=>⟨by show (leN 1 x++_).length=c';rw[List.length_append,leN_length,List.length_replicate];omega,hs2⟩⟩,by show wd - 1<wd - 0;omega⟩)
    | succ i =>
      obtain⟨hs1,hs2⟩:=hs (by omega)
      refine WO.appZ (g:=g) (X:=leN (i+1) x) (R:=rl) (Y:=[z]) (m:=1) (l:=i+1+1) rfl rfl (by rw[leN_length]) hs1 (Pk.there Pk.here) (Rds.own (m:=1) Hs.here rfl) rfl rfl (by omega) hs2 (by omega) (by decide) (by decide) (fun g' c' r' hc1 hc2=>?_)
      rw[← hsc] at hc1 ⊢
      repeat (first|refine Ta ?_|(refine Tm ?_;intro _)|refine WO.does (does_quo rfl rfl (by decide) hq) ?_|refine Tc ?_|exact Tz)
      refine WX.metI (i+1+1,g',c',r') (hk:=(by repeat (first|exact Kle.nil|refine Kle.cons rfl (by first|rfl|exact hyv) ?_))) (hl:=(by repeat (first|exact Lle.nil|exact Lle.same|refine Lle.cons (by repeat (first|exact Pk.here|apply Pk.there)) (by rfl) ?_|refine Lle.skip ?_))) (hs:=⟨⟨by show i+1+1≤wd;omega,fun _=>⟨hc1,hc2⟩⟩,by show wd - (i+1+1)<wd - (i+1);omega⟩)
  · have hiw:i=wd:=by omega
    obtain⟨hs1,hs2⟩:=hs (by omega)
    subst hiw
    obtain⟨w',rfl⟩ : ∃ w',i=w' + 1:=⟨i - 1,by omega⟩
    repeat (first|refine Ta ?_|(refine Tm ?_;intro _)|refine Tc ?_|exact Tz)
    refine WC.dF rfl (by omega) ?_
    repeat (first|refine Ta ?_|(refine Tm ?_;intro _)|refine Tc ?_|exact Tz)
    refine WC.loopI (σ:=Nat × Option (Nat × Nat × List Nat)) (fun s=>s.1≤w' + 1∧outOk s.2 (T.take (B.length+(w' + 1 - s.1)))) (fun s=>[(6,.slice none 0 0),(7,outV s.2 (B.length+(w' + 1 - s.1))),(9,.slice (some ⟨g,0,none⟩) (w' + 1) cl),(11,.int .i64 ((s.1:Int) - 1))]) (fun s=>⟨g,5,byC (leN (w' + 1) x++rl)⟩::outL s.2 (T.take (B.length+(w' + 1 - s.1)))) (fun s=>s.1) (w' + 1,o) (fun s hs=>?_) ⟨Nat.le_refl _,by show outOk o (T.take (B.length+(w' + 1 - (w' + 1))));rw[Nat.sub_self,Nat.add_zero,hT0];exact ho⟩ (by
        dsimp only
        rw[Nat.sub_self,Nat.add_zero]
        repeat (first|exact Kle.nil|refine Kle.cons rfl rfl ?_)) (by
        dsimp only
        simp only[Nat.sub_self,Nat.add_zero,hT0]
        exact Lle.same)
    obtain⟨j,o⟩:=s
    obtain⟨hj,ho2⟩:=hs
    dsimp only at hj ho2 ⊢
    cases j with
    | zero =>
      have hpos:0<T.length:=by omega
      rw[Nat.sub_zero,← hTl,List.take_length] at ho2
      rw[Nat.sub_zero,← hTl,List.take_length]
      rcases o with _|⟨g0,c0,r0⟩
      · have h0:T=[]:=ho2
        rw[h0] at hpos
        simp at hpos
      · obtain⟨hc1,hc2⟩:=ho2
        simp only[outV,outL]
        repeat (first|refine Ta ?_|(refine Tm ?_;intro _)|refine Tc ?_|exact Tz)
        exact WX.ret1 rfl (rv_tmp rfl) [⟨g0,5,byC (T++r0)⟩] ⟨_,_,Pk.there Pk.here,rfl,trivial⟩ ⟨g0,c0,r0,rfl,rfl,hc1,hc2⟩
    | succ i =>
      rw[show (((i+1:Nat):Int) - 1)=(i:Int) by omega]
      have hget:(byC (leN (w' + 1) x++rl))[i]?=some (.int .u8 ((x / 256 ^ i%256:Nat):Int)):=by
        rw[byC_append,List.getElem?_append_left (by rw[byC_length,leN_length];omega)]
        simp[byC,leN_get x (show i<w' + 1 by omega)]
      have hTi:=hTg i (by omega)
      have hnx:T.take (B.length+(w' + 1 - i))=T.take (B.length+(w' + 1 - (i+1)))++[x / 256 ^ i%256]:=by
        rw[show B.length+(w' + 1 - i)=B.length+(w' + 1 - (i+1))+1 by omega]
        rw[List.getElem?_eq_some_iff] at hTi
        obtain⟨hlt2,hTi⟩:=hTi
        rw[List.take_succ_eq_append_getElem hlt2,hTi]
      generalize x / 256 ^ i%256=z at *
      have hlX:(T.take (B.length+(w' + 1 - (i+1)))).length=B.length+(w' + 1 - (i+1)):=by rw[List.length_take];omega
      have hn2:B.length+(w' + 1 - i)=B.length+(w' + 1 - (i+1))+1:=by omega
      generalize hX:T.take (B.length+(w' + 1 - (i+1)))=X at *
      generalize hm:B.length+(w' + 1 - (i+1))=m at *
      have hmb:m<1099511627776:=by omega
      repeat (first|refine Ta ?_|(refine Tm ?_;intro _)|refine WO.does (a_load1 (hc:=hget)) ?_|(refine WO.makes (makes_build (cs:=[.int .u8 (z:Int)]) rfl (by decide) rfl) ?_;intro g2)|refine Tc ?_|exact Tz)
      rcases o with _|⟨g0,c0,r0⟩
      · have h0:X=[]:=ho2
        have hm0:m=0:=by rw[← hlX,h0];rfl
        simp only[outV,outL]
        refine WO.news (app_new (z:=[Value.int .u8 0]) (n:=1) rfl rfl (ys:=[]) Rds.nil rfl (Rds.own (m:=1) Hs.here rfl) rfl (by decide) (by decide) (by decide) (by decide) rfl) (fun s hs=>?_)
        obtain⟨hs1,hs2⟩:=hs
        generalize s 0=g'
        generalize s 1=c' at *
        rw[List.nil_append]
        have hbx:T.take (B.length+(w' + 1 - i))=[z]:=by rw[hnx,h0];rfl
        repeat (first|refine Ta ?_|(refine Tm ?_;intro _)|refine Tc ?_|exact Tz)
        refine WX.metI (i,some (g',c',List.replicate (c' - (0+1)) 0)) (hk:=(by repeat (first|exact Kle.nil|refine Kle.cons rfl (by first|rfl|(show Value.slice _ (0+1) _=Value.slice _ (B.length+(w' + 1 - i)) _;rw[hn2,hm0])) ?_))) (hl:=(by
            refine Lle.cons (by repeat (first|exact Pk.here|apply Pk.there)) rfl ?_
            refine Lle.cons (by repeat (first|exact Pk.here|apply Pk.there)) (by show _=byC (T.take (B.length+(w' + 1 - i))++_);rw[hbx,byC_append,← mkz_byC];rfl) ?_
            exact Lle.nil)) (hs:=⟨⟨by show i≤w' + 1;omega,by show (T.take (B.length+(w' + 1 - i))++_).length=c';rw[hbx,List.length_append,List.length_replicate];simp;omega,hs2⟩,by show i<i+1;omega⟩)
      · obtain⟨hc1,hc2⟩:=ho2
        simp only[outV,outL]
        refine WO.appZ (g:=g0) (X:=X) (R:=r0) (Y:=[z]) (m:=1) (l:=m+1) rfl rfl hlX hc1 (by repeat (first|exact Pk.here|apply Pk.there)) (Rds.own (m:=1) Hs.here rfl) rfl rfl (by omega) hc2 (by omega) (by decide) (by decide) (fun g' c' r' hd1 hd2=>?_)
        rw[← hnx] at hd1 ⊢
        repeat (first|refine Ta ?_|(refine Tm ?_;intro _)|refine Tc ?_|exact Tz)
        refine WX.metI (i,some (g',c',r')) (hk:=(by repeat (first|exact Kle.nil|refine Kle.cons rfl (by first|rfl|(show Value.slice _ (m+1) _=Value.slice _ (B.length+(w' + 1 - i)) _;rw[hn2])) ?_))) (hl:=(by repeat (first|exact Lle.nil|exact Lle.same|refine Lle.cons (by repeat (first|exact Pk.here|apply Pk.there)) (by rfl) ?_|refine Lle.skip ?_))) (hs:=⟨⟨by show i≤w' + 1;omega,hd1,hd2⟩,by show i<i+1;omega⟩)
end Sx
end Go.Proofs.YtmhligfnchegdaaGreatDoor
namespace Go.Proofs.YtmhligfnchegdaaGreatDoor
open Go Go.RowKit Go.BigFrame
namespace Sx
attribute [local irreducible] wd DQ DQS WO WC WX
section
variable {P:Program} {w0:World} {gs:List Nat} {K:List (Nat × Value)} {L:List Ent}
theorem does_sliceLH {t elem size ty len cap l h b o o' m c2:Nat} {k k' : IntKind} {x y z:Operand} [SlT P t elem size] (hx:ev K x=some (.slice (some ⟨b,o,none⟩) len cap)) (hy:ev K y=some (.int k (l:Int))) (hz:ev K z=some (.int k' (h:Int))) (hlh:l≤h) (hh:h≤cap) (hc:l<cap) (ho' : o+l*size=o') (hm:h - l=m) (hcc:cap - l=c2) :
    Does P w0 gs K L (.slice t x (some y) (some z) none) ty (.slice (some ⟨b,o',none⟩) m c2):=by
  intro a w hk _ oo ho _
  subst ho'
  subst hm
  subst hcc
  have hu:∀ w,(underlying t).run P w=.ok (.slice elem) w:=fun w=>by simp[underlying,SlT.under (P:=P) (t:=t)]
  have hb1:((0:Int)≤(h:Int)∧(h:Int)≤(cap:Int)):=by omega
  have hb2:((0:Int)≤(l:Int)∧(l:Int)≤(h:Int)):=by omega
  have hne:¬ cap=l:=by omega
  simp only[execOp,ho,hk.eval hx,Option.map_none,Option.map_some,hk.eval hy,hk.eval hz,Instr.sliceAt,Sem.run_bind,hu,Result.andThen_ok,Instr.slice,Sem.run_pure,Instr.sliceBounds,Instr.sliceBound,asIntOf,if_pos hb1,SlT.size (P:=P) (t:=t),Int.toNat_natCast,if_pos hb2]
  simp[hne,add_mk]
end
section
variable {P:Program} {w0:World} {gs:List Nat} {n:Nat} {ops:List Oper} {Q:Exit→Act→World→Prop} {K:List (Nat × Value)} {L L2:List Ent} {rest:List Oper}
variable {d:Nat} {ty:TypeId} {pos:String} {after:Array Edge} {gd:Option (Nat × Bool)}
def PkO (L:List Ent) (o:Option (Nat × Nat × List Nat)) (X:List Nat) (L2:List Ent):Prop:=match o with|none=>L=L2|some (g,_,r)=>Pk L g 5 (byC (X++r)) L2
theorem WO.appO {o:Option (Nat × Nat × List Nat)} {st xt bts:Nat} {x y:Operand} {v:Value} {X Y:List Nat} [SlT P st 5 1] [SlT P xt 5 1] [ElT P 5 bts [Value.int .u8 0]] (ho:outOk o X) (hx:ev K x=some (outV o X.length)) (hy:ev K y=some v) (hp:PkO L o X L2)
    (hr:Rds w0 gs L v Y.length (byC Y)) (hY:0<Y.length) (hb:bts≠0) (hnc:(X.length+Y.length)*bts≤140737488355328) (hl:X.length+Y.length<9223372036854775808)
    (k:∀ g c r,(byC (X++Y)++r).length=c→c<9223372036854775808→WO P w0 gs n ops Q ((d,.slice (some ⟨g,0,none⟩) (X.length+Y.length) c)::K) (⟨g,5,byC (X++Y)++r⟩::L2) rest) (hd:Nat.blt d n=true:=by rfl) (hw:wk ops K gd=some true:=by rfl) :
    WO P w0 gs n ops Q K L (⟨some d,.call { callee:=.builtin .append,args:=#[x,y],argTypes:=#[st,xt] },ty,pos,after,gd⟩::rest):=by
  rcases o with _|⟨g0,c0,r0⟩
  · have h0:X=[]:=ho
    subst h0
    have hp:L=L2:=hp
    subst hp
    refine WO.news (app_new (z:=[Value.int .u8 0]) (n:=Y.length) hx hy (ys:=[]) Rds.nil rfl hr (by simp[byC_length]) (by simp at hl ⊢;omega) (by simp at hl ⊢;omega) (by simpa using growslice_fits (by omega) (by simpa using hnc)) hb rfl) (fun s hs=>?_) hd hw
    obtain⟨h1,h2⟩:=hs
    rw[Nat.zero_add] at h1
    have:=k (s 0) (s 1) (mkz (s 1 - Y.length) [Value.int .u8 0]) (by rw[List.nil_append,List.length_append,byC_length,mkz_length];simp;omega) h2
    simpa using this
  · obtain⟨h1,h2⟩:=ho
    have hp:Pk L g0 5 (byC (X++r0)) L2:=hp
    rw[byC_append] at hp
    refine WO.appB (g:=g0) (xs:=byC X) (r:=byC r0) (ys:=byC Y) (m:=Y.length) (l:=X.length+Y.length) hx hy (byC_length _) (by rw[← byC_append,byC_length];exact h1) hp hr (byC_length _) (byC_one _) rfl hl h2 hnc hb (by decide) (fun g c r e1 e2=>?_) hd hw
    rw[← byC_append] at e1 ⊢
    exact k g c r e1 e2
end
set_option maxRecDepth 100000 in
set_option maxHeartbeats 2000000 in
theorem r_table:Fn Tryz.prog 214 [] Tr (NewS 187 64 (w3C Sha.K)):=by
  refine Fn.enter Tryz.func214 rfl rfl rfl ?_
  intro w hw
  repeat (first|refine Ta ?_|(refine Tm ?_;intro _)|(refine WO.makes (makes_build (cs:=w3C Sha.K) rfl (by decide) (by kernel_rfl)) ?_;intro _)|refine Tc ?_|exact Tz)
  exact WX.retN
theorem PZ_snoc {l:Nat} (h:1≤l):(128::List.replicate (l+1 - 1) 0:List Nat)=128::List.replicate (l - 1) 0++[0]:=by
  rw[show l+1 - 1=l - 1+1 by omega,List.replicate_succ',← List.cons_append]
theorem be_take_succ {x i:Nat} (h:i<8):(be 8 x).take (i+1)=(be 8 x).take i++[x / 2 ^ (8*(7 - i))%256]:=by
  have h1:i<(be 8 x).length:=by rw[be_length];exact h
  have h2:=be_get (x:=x) h
  rw[List.getElem?_eq_some_iff] at h2
  obtain⟨_,h2⟩:=h2
  rw[List.take_succ_eq_append_getElem h1,h2,show 8 - 1 - i=7 - i by omega]
theorem drop_take64 {M:List Nat} {j:Nat} (h:64*j+64≤M.length):((M.drop (64*j)).take 64).length=64:=by rw[List.length_take,List.length_drop];omega
theorem cut_chunk {M:List Nat} {r:List Value} {j:Nat} (h:64*j+64≤M.length):cut (byC M++r) (64*j) 64=byC ((M.drop (64*j)).take 64):=by
  unfold cut
  rw[List.drop_append_of_le_length (by rw[byC_length];omega),List.take_append_of_le_length (by rw[List.length_drop,byC_length];omega),byC_drop,byC_take]
theorem padded64 (n:Nat):(n+(padL n).length)%64=0:=by rw[padL_length];unfold Sha.pad;omega
set_option maxRecDepth 100000 in
set_option maxHeartbeats 4000000 in
theorem r5_Of (X:List Nat) (c:Nat) (p:Option Addr) (hX:∀ x∈X,x<256) (hl:X.length≤1099511627776) :
    Fn Tryz.prog 129 [.slice p X.length c] (fun w=>Rd (.slice p X.length c) X.length (byC X) w) (Is (.agg (byC (Sha.sum X)).toArray)):=by
  have hPl:Sha.pad X.length≤63:=by unfold Sha.pad;omega
  have hpe:=padL_eq (m:=X) (by omega)
  refine Fn.enter Tryz.func129 rfl rfl rfl ?_
  intro w hw
  repeat (first|refine Ta ?_|(refine Tm ?_;intro _)|refine Tc ?_|exact Tz)
  refine WO.appFirst rfl rfl hw.rds (by decide) (by omega) (by omega) (fun o ho=>?_)
  repeat (first|refine Ta ?_|(refine Tm ?_;intro _)|(refine WO.makes (makes_build (cs:=[.int .u8 128]) rfl (by decide) rfl) ?_;intro _)|refine Tc ?_|exact Tz)
  rename_i g2 g13
  refine WO.appO (L2:=[⟨g13,5,[.int .u8 128]⟩,⟨g2,82,_⟩]) (Y:=[128]) ho rfl rfl (by rcases o with _|⟨g,c,r⟩<;>first|rfl|exact Pk.there Pk.here) (Rds.own (m:=1) Hs.here rfl) (by decide) (by decide) (by simp;omega) (by simp;omega) (fun g3 c3 r3 h1 h2=>?_)
  repeat (first|refine Ta ?_|(refine Tm ?_;intro _)|refine Tc ?_|exact Tz)
  refine WC.loopI (σ:=Nat × Nat × Nat × List Value) (fun s=>1≤s.1∧s.1≤Sha.pad X.length+1∧(byC (X++128::List.replicate (s.1 - 1) 0)++s.2.2.2).length=s.2.2.1∧s.2.2.1<9223372036854775808) (fun s=>[(0,.slice p X.length c),(2,pt g2),(3,.slice (some ⟨s.2.1,0,none⟩) (X.length+s.1) s.2.2.1)])
    (fun s=>[⟨s.2.1,5,byC (X++128::List.replicate (s.1 - 1) 0)++s.2.2.2⟩,⟨g2,82,List.replicate 32 (.int .u8 0)⟩]) (fun s=>Sha.pad X.length+1 - s.1) (1,g3,c3,r3) (fun s hs=>?_) ⟨Nat.le_refl _,by show 1≤_;omega,h1,h2⟩
  clear h1 h2 ho
  obtain⟨l,g3,c3,r3⟩:=s
  obtain⟨hl1,hl2,h1,h2⟩:=hs
  dsimp only at hl1 hl2 h1 h2 ⊢
  have hstop:=pad_stop hl1 hl2
  have hrem:=rem_nat (X.length+l) 64
  by_cases hst:(X.length+l)%64=56
  · have hlp:=hstop.1 hst
    have hd:decide ((((X.length+l)%64:Nat):Int)≠56)=false:=decide_eq_false (fun h=>h (by omega))
    repeat (first|refine Ta ?_|(refine Tm ?_;intro _)|refine WO.does (does_rem rfl rfl (by decide) hrem) ?_|refine Tc ?_|exact Tz)
    rw[hd]
    have hcv:IntKind.u64.wrap ((X.length:Nat):Int)=((X.length:Nat):Int):=u64_in (by omega) (by omega)
    have hmu:=mul_u64 8 X.length (by omega)
    have hA:X++128::List.replicate (l - 1) 0++(be 8 (8*X.length)).take 0=X++128::List.replicate (l - 1) 0:=by simp
    have hM:X++128::List.replicate (l - 1) 0++(be 8 (8*X.length)).take 8=Sha.padded X:=by
      rw[hpe,hlp,List.take_of_length_le (by rw[be_length];omega)]
      unfold padL
      simp
    have hAl:(X++128::List.replicate (l - 1) 0).length=X.length+l:=by simp;omega
    have hAb:∀ x∈X++128::List.replicate (l - 1) 0,x<256:=by
      intro x hx
      rcases List.mem_append.1 hx with hx|hx
      · exact hX x hx
      · rcases List.mem_cons.1 hx with rfl|hx
        · decide
        · rw[List.eq_of_mem_replicate hx];decide
    have hMl:(Sha.padded X).length=X.length+l+8:=by rw[hpe,List.length_append,padL_length];omega
    have hM64:(Sha.padded X).length%64=0:=by rw[hpe,List.length_append];exact padded64 _
    have hMb:∀ x∈Sha.padded X,x<256:=by
      rw[hpe]
      intro x hx
      rcases List.mem_append.1 hx with hx|hx
      · exact hX x hx
      · exact padL_lt _ x hx
    rw[← hA] at h1
    clear hrem hstop hst hd hpe
    repeat (first|refine Ta ?_|(refine Tm ?_;intro _)|refine WO.does (does_conv rfl hcv) ?_|refine WO.does (does_mul rfl rfl hmu) ?_|refine Tc ?_|exact Tz)
    rw[← hA]
    clear hA
    generalize hN:X.length+l=N at *
    generalize hAA:X++128::List.replicate (l - 1) 0=A at *
    clear hcv hmu hAA
    refine WC.loopI (σ:=Nat × Nat × Nat × List Value) (fun s=>s.1≤8∧(byC (A++(be 8 (8*X.length)).take s.1)++s.2.2.2).length=s.2.2.1∧s.2.2.1<9223372036854775808) (fun s=>[(2,pt g2),(3,.slice (some ⟨s.2.1,0,none⟩) (N+s.1) s.2.2.1),(4,.int .u64 ((8*X.length:Nat):Int)),(5,.int .i64 (s.1:Int))])
      (fun s=>[⟨s.2.1,5,byC (A++(be 8 (8*X.length)).take s.1)++s.2.2.2⟩,⟨g2,82,List.replicate 32 (.int .u8 0)⟩]) (fun s=>8 - s.1) (0,g3,c3,r3) (fun s hs=>?_) ⟨Nat.zero_le _,h1,h2⟩
    clear h1 h2
    obtain⟨i,g3,c3,r3⟩:=s
    obtain⟨hi,h1,h2⟩:=hs
    dsimp only at hi h1 h2 ⊢
    by_cases hlt:i<8
    · have hm8:=mul_i64 8 i (by omega)
      have hsb:IntKind.i64.wrap (56 - ((8*i:Nat):Int))=((8*(7 - i):Nat):Int):=i64_in' (by omega) (by omega) (by omega)
      have hsh:=shr_u64 (8*X.length) (8*(7 - i)) (by omega)
      have hcv:=u8_nat (8*X.length / 2 ^ (8*(7 - i)))
      have hnx:=be_take_succ (x:=8*X.length) hlt
      have hbl:((be 8 (8*X.length)).take i).length=i:=by rw[List.length_take,be_length];omega
      have hNi:(A++(be 8 (8*X.length)).take i).length=N+i:=by rw[List.length_append,hbl,hAl]
      generalize 8*X.length / 2 ^ (8*(7 - i))=z at *
      generalize (be 8 (8*X.length)).take i=T at *
      repeat (first|refine Ta ?_|(refine Tm ?_;intro _)|refine Tc ?_|exact Tz)
      refine WC.dT rfl (by omega) ?_
      repeat (first|refine Ta ?_|(refine Tm ?_;intro _)|refine WO.does (does_mul rfl rfl hm8) ?_|refine WO.does (does_sub rfl rfl hsb) ?_|refine WO.does (does_shr rfl rfl (by omega) hsh) ?_|refine WO.does (does_conv rfl hcv) ?_|(refine WO.makes (makes_build (cs:=[.int .u8 ((z%256:Nat):Int)]) rfl (by decide) rfl) ?_;intro _)|refine Tc ?_|exact Tz)
      refine WO.appB (g:=g3) (xs:=byC (A++T)) (r:=r3) (ys:=[.int .u8 ((z%256:Nat):Int)]) (m:=1) (l:=N+i+1) rfl rfl (by rw[byC_length,hNi]) h1 (Pk.there Pk.here) (Rds.own (m:=1) Hs.here rfl) rfl rfl rfl (by omega) h2 (by omega) (by decide) (by decide) (fun g' c' r' hd1 hd2=>?_)
      rw[show byC (A++T)++[.int .u8 ((z%256:Nat):Int)]=byC (A++(be 8 (8*X.length)).take (i+1)) by rw[hnx,← List.append_assoc,byC_append (A++T)];rfl] at hd1 ⊢
      repeat (first|refine Ta ?_|(refine Tm ?_;intro _)|refine Tc ?_|exact Tz)
      refine WX.metI (i+1,g',c',r') (hs:=⟨⟨by show i+1≤8;omega,hd1,hd2⟩,by show 8 - (i+1)<8 - i;omega⟩)
    · have hi8:i=8:=by omega
      rw[show (be 8 (8*X.length)).take i=(be 8 (8*X.length)).take 8 by rw[hi8],hM] at h1 ⊢
      rw[show N+i=(Sha.padded X).length by omega]
      have hsum:Sha.sum X=Sha.outs (Sha.takes Sha.H0 (Sha.padded X) ((Sha.padded X).length / 64)):=rfl
      rw[hsum]
      have hMb40:(Sha.padded X).length≤1099511627999:=by omega
      clear hM hsum hMl hAl hAb hN
      generalize Sha.padded X=M at *
      repeat (first|refine Ta ?_|(refine Tm ?_;intro _)|refine Tc ?_|exact Tz)
      refine WC.dF rfl (by omega) ?_
      repeat (first|refine Ta ?_|(refine Tm ?_;intro _)|refine WO.does (does_buildA (cs:=w3C Sha.H0) rfl rfl rfl) ?_|refine WO.stores (a_store (vs:=w3C Sha.H0) (cs':=w3C Sha.H0)) ?_|(refine WO.acallN (hc:=r_table) (hR:=fun _ _=>trivial) (k:=?_);intro _)|refine Tc ?_|exact Tz)
      clear hlt hi hi8
      rename_i g6 gk
      refine WC.loopI (σ:=Nat) (fun j=>64*j≤M.length) (fun j=>[(2,pt g2),(3,.slice (some ⟨g3,0,none⟩) M.length c3),(6,pt g6),(7,.slice (some ⟨gk,0,none⟩) 64 64),(8,.int .i64 ((64*j:Nat):Int))])
        (fun j=>[⟨g3,5,byC M++r3⟩,⟨g2,82,List.replicate 32 (.int .u8 0)⟩,⟨g6,258,w3C (Sha.takes Sha.H0 M j)⟩,⟨gk,187,w3C Sha.K⟩]) (fun j=>M.length - 64*j) 0 (fun j hj=>?_) (by show 64*0≤M.length;omega)
      try dsimp only at hj ⊢
      have hcM:M.length≤c3:=by rw[← h1,List.length_append,byC_length];omega
      by_cases hlt:64*j<M.length
      · have hj64:64*j+64≤M.length:=by omega
        have ht8:=takes_len (s:=Sha.H0) (b:=M) rfl j
        have htl:=takes_lt (b:=M) j
        have hnx:Sha.takes Sha.H0 M (j+1)=Sha.take (Sha.takes Sha.H0 M j) ((M.drop (64*j)).take 64):=rfl
        have hck:=cut_chunk (r:=r3) hj64
        have hdl:=drop_take64 hj64
        have hdb:∀ x∈(M.drop (64*j)).take 64,x<256:=fun x hx=>hMb x (List.mem_of_mem_drop (List.mem_of_mem_take hx))
        have ha:=i64_in' (x:=((64*j:Nat):Int)+64) (r:=((64*j+64:Nat):Int)) (by omega) (by omega) (by omega)
        have htk8:=takes_len (s:=Sha.H0) (b:=M) rfl (j+1)
        rw[hnx] at htk8
        have hge:64*(j+1)=64*j+64:=by omega
        generalize hTT:Sha.takes Sha.H0 M j=T at *
        generalize hCC:(M.drop (64*j)).take 64=C at *
        obtain⟨t0,t1,t2,t3,t4,t5,t6,t7,rfl⟩:=eight ht8
        have hB:=r_block t0 t1 t2 t3 t4 t5 t6 t7 C g3 (64*j) (c3 - 64*j) gk hdb hdl htl
        generalize Sha.take [t0,t1,t2,t3,t4,t5,t6,t7] C=T' at *
        repeat (first|refine Ta ?_|(refine Tm ?_;intro _)|refine Tc ?_|exact Tz)
        refine WC.dT rfl (by omega) ?_
        repeat (first|refine Ta ?_|(refine Tm ?_;intro _)|refine Tc ?_|exact Tz)
        refine WC.adraw 8 (k:=?_)
        repeat (first|refine Da ?_|refine DQ.does (fun s _=>does_add rfl rfl ha) Dp.const ?_|refine DQ.does (v:=fun _=>.slice (some ⟨g3,64*j,none⟩) 64 (c3 - 64*j)) (fun s _=>does_sliceLH (l:=64*j) (h:=64*j+64) rfl rfl rfl (by omega) (by omega) (by omega) (by omega) (by omega) rfl) Dp.const ?_|refine DQ.acallR (hc:=hB) (hR:=fun w' hm=>⟨by have:=(Hs.seg (g:=g3) (t:=5) (cs:=byC M++r3) (by repeat (first|exact Hs.here|apply Hs.there)) hm).sub hck;rwa [Nat.zero_add] at this,Hs.seg (by repeat (first|exact Hs.here|apply Hs.there)) hm⟩) (k:=?_)|refine Dc ?_)
        refine DQ.anil (k:=?_)
        intro sx _
        have hov8:over (w3C [t0,t1,t2,t3,t4,t5,t6,t7]) 0 (w3C T')=w3C T':=over_all (by rw[w3C_length,w3C_length,htk8];rfl)
        repeat (first|refine Ta ?_|(refine Tm ?_;intro _)|refine WO.stores (a_store (vs:=w3C T') (hl:=by rw[w3C_length,htk8]) (h1:=w3C_one T') (hc:=hov8) (hle:=by rw[w3C_length,htk8];rfl)) ?_|refine WO.does (does_add rfl rfl ha) ?_|refine Tc ?_|exact Tz)
        refine WX.metI (j+1) (hk:=(by repeat (first|exact Kle.nil|refine Kle.cons rfl (by first|rfl|(rw[hge])) ?_))) (hl:=(by repeat (first|exact Lle.nil|refine Lle.cons (by repeat (first|exact Pk.here|apply Pk.there)) (by first|rfl|(rw[hnx])) ?_))) (hs:=⟨by show 64*(j+1)≤M.length;omega,by show M.length - 64*(j+1)<M.length - 64*j;omega⟩)
      · have hjq:M.length / 64=j:=by omega
        rw[hjq]
        have hs8:=takes_len (s:=Sha.H0) (b:=M) rfl j
        generalize Sha.takes Sha.H0 M j=T at *
        have hT32:(Sha.outs T).length=32:=by rw[outs_length,hs8]
        repeat (first|refine Ta ?_|(refine Tm ?_;intro _)|refine Tc ?_|exact Tz)
        refine WC.dF rfl (by omega) ?_
        repeat (first|refine Ta ?_|(refine Tm ?_;intro _)|refine Tc ?_|exact Tz)
        rename_i g9
        clear hlt hjq hj hcM hMb hM64 h1
        refine WC.loopI (σ:=Nat) (fun i=>i≤32) (fun i=>[(2,pt g2),(6,pt g6),(9,pt g9),(10,.int .i64 (i:Int))]) (fun i=>[⟨g2,82,List.replicate 32 (.int .u8 0)⟩,⟨g6,258,w3C T⟩,⟨g9,82,pad (Sha.outs T) i⟩]) (fun i=>32 - i) 0 (hl:=(by repeat (first|exact Lle.nil|refine Lle.cons (by repeat (first|exact Pk.here|apply Pk.there)) (by first|rfl|(unfold pad;rw[hT32];rfl)) ?_))) (fun i hi=>?_) (Nat.zero_le _)
        try dsimp only at hi ⊢
        by_cases hlt:i<32
        · have hT1:=outs_get (s:=T) (i:=i) (by omega)
          have hov:=pad_over hT1
          have hq:=quo_i64 i 4 (by omega)
          have hr:=rem_nat i 4
          have hm:=mul_i64 (i%4) 8 (by omega)
          have hm' : IntKind.i64.wrap (8*((i%4:Nat):Int))=((i%4*8:Nat):Int):=i64_in' (by omega) (by omega) (by omega)
          have hsb:IntKind.i64.wrap (24 - ((i%4*8:Nat):Int))=((8*(3 - i%4):Nat):Int):=i64_in' (by omega) (by omega) (by omega)
          have hw1:=w3C_get (getD_get (l:=T) (i:=i / 4) (by omega))
          have hsh:((T.getD (i / 4) 0:Nat):Int).fdiv (2 ^ min (((8*(3 - i%4):Nat):Int)).toNat IntKind.u32.bits)=((T.getD (i / 4) 0 / 2 ^ (8*(3 - i%4)):Nat):Int):=shr_nat (by show 8*(3 - i%4)≤32;omega)
          have hpl1:(pad (Sha.outs T) i).length=32:=by rw[pad_length (by omega),hT32]
          generalize T.getD (i / 4) 0 / 2 ^ (8*(3 - i%4))=vv at *
          repeat (first|refine Ta ?_|(refine Tm ?_;intro _)|refine Tc ?_|exact Tz)
          refine WC.dT rfl (by omega) ?_
          repeat (first|refine WO.does (does_quo rfl rfl (by decide) hq) ?_|refine WO.does (a_load1 (hc:=hw1)) ?_|refine WO.does (does_rem rfl rfl (by decide) hr) ?_|refine WO.does (does_mul rfl rfl hm) ?_|refine WO.does (does_mul rfl rfl hm') ?_|refine WO.does (does_sub rfl rfl hsb) ?_|refine WO.does (does_shr rfl rfl (by omega) hsh) ?_|refine WO.does (does_conv rfl (u8_nat _)) ?_|refine WO.stores (a_store (hc:=hov) (hle:=by rw[hpl1];exact Nat.ble_eq_true_of_le hlt)) ?_|refine Ta ?_|(refine Tm ?_;intro _)|refine Tc ?_|exact Tz)
          exact WX.metI (i+1) (hs:=⟨by omega,by omega⟩)
        · have hi3:i=32:=by omega
          have hpf:pad (Sha.outs T) 32=byC (Sha.outs T):=by rw[← hT32];exact pad_full _
          have hbl32:(byC (Sha.outs T)).length=32:=by rw[byC_length,hT32]
          rw[show pad (Sha.outs T) i=byC (Sha.outs T) by rw[hi3];exact hpf]
          generalize Sha.outs T=U at *
          repeat (first|refine Ta ?_|(refine Tm ?_;intro _)|refine Tc ?_|exact Tz)
          refine WC.dF rfl (by omega) ?_
          repeat (first|refine WO.does (a_load (vs:=byC U) (hc:=cut_all hbl32) (hl:=hbl32)) ?_|refine WO.stores (a_store (vs:=byC U) (cs':=byC U) (hl:=hbl32) (h1:=byC_one _) (hc:=over_all (by rw[hbl32];rfl)) (hle:=by rw[hbl32];rfl)) ?_|refine Ta ?_|(refine Tm ?_;intro _)|refine Tc ?_|exact Tz)
          exact WX.aret1 (hr:=a_rvc (vs:=byC U) (hc:=cut_all hbl32) (hl:=hbl32)) (hp:=rfl)
  · have hd:decide ((((X.length+l)%64:Nat):Int)≠56)=true:=decide_eq_true (fun h=>hst (by omega))
    have hlp:l≠Sha.pad X.length+1:=fun h=>hst (hstop.2 h)
    have hAl:(X++128::List.replicate (l - 1) 0).length=X.length+l:=by simp;omega
    have hnx:X++128::List.replicate (l+1 - 1) 0=X++128::List.replicate (l - 1) 0++[0]:=by rw[PZ_snoc hl1,List.append_assoc]
    repeat (first|refine Ta ?_|(refine Tm ?_;intro _)|refine WO.does (does_rem rfl rfl (by decide) hrem) ?_|refine Tc ?_|exact Tz)
    rw[hd]
    repeat (first|refine Ta ?_|(refine Tm ?_;intro _)|(refine WO.makes (makes_build (cs:=[.int .u8 0]) rfl (by decide) rfl) ?_;intro _)|refine Tc ?_|exact Tz)
    refine WO.appB (g:=g3) (xs:=byC (X++128::List.replicate (l - 1) 0)) (r:=r3) (ys:=[.int .u8 0]) (m:=1) (l:=X.length+l+1) rfl rfl (by rw[byC_length,hAl]) h1 (Pk.there Pk.here) (Rds.own (m:=1) Hs.here rfl) rfl rfl rfl (by omega) h2 (by omega) (by decide) (by decide) (fun g' c' r' hd1 hd2=>?_)
    rw[show byC (X++128::List.replicate (l - 1) 0)++[.int .u8 0]=byC (X++128::List.replicate (l+1 - 1) 0) by rw[hnx,byC_append (X++128::List.replicate (l - 1) 0)];rfl] at hd1 ⊢
    repeat (first|refine Ta ?_|(refine Tm ?_;intro _)|refine Tc ?_|exact Tz)
    refine WX.metI (l+1,g',c',r') (hs:=⟨⟨by show 1≤l+1;omega,by show l+1≤Sha.pad X.length+1;omega,hd1,hd2⟩,by show Sha.pad X.length+1 - (l+1)<Sha.pad X.length+1 - l;omega⟩)
end Sx
end Go.Proofs.YtmhligfnchegdaaGreatDoor
