/- Part 21 of the proof. -/
import Derived.Test.YtbbppkkhidkjpaaGreatDoorM14
import Derived.Test.YtbbppkkhidkjpaaGreatDoorM07
set_option linter.unusedSimpArgs false
set_option linter.unusedVariables false
set_option maxHeartbeats 8000000
namespace Go.Proofs.YtbbppkkhidkjpaaGreatDoor
section
open Go Go.RowKit Go.BigFrame
namespace Sx
attribute [local irreducible] DQ DQS WC WO WX wd
section
variable {P:Program} {w0:World} {gs:List Nat} {K:List (Nat × Value)} {L:List Ent}
theorem kA {st xt ty e bts:Nat} {z0:Value} {x y:Operand} {v:Value} [SlT P st e 1] [SlT P xt e 1] [ElT P e bts [z0]] (hx:ev K x=some (.slice none 0 0)) (hy:ev K y=some v) (hr:Rds w0 gs L v 0 []) :
  Does P w0 gs K L (.call { callee:=.builtin .append,args:=#[x,y],argTypes:=#[st,xt] }) ty (.slice none 0 0):=by
 intro a w hk hme o hop _;obtain⟨dst,op,ty',pos,after,guard⟩:=o;subst hop;have hu:∀ w,(underlying st).run P w=.ok (.slice e) w:=fun w=>by simp[underlying,SlT.under (P:=P) (t:=st)]
 have hu2:∀ w,(underlying xt).run P w=.ok (.slice e) w:=fun w=>by simp[underlying,SlT.under (P:=P) (t:=xt)]
 have hsz:∀ w,(sizeOf e).run P w=.ok 1 w:=SlT.size (P:=P) (t:=st);rw[yK hk (show evs K [x,y]=some [.slice none 0 0,v] by simp[evs,hx,hy]),builtin_append];have hf:=hr.first (P:=P) (size:=1) rfl hme
 simp only[Sem.run_bind,Builtin.append_,List.getElem?_toArray,List.getElem?_cons_zero,List.getElem?_cons_succ,hu,Result.andThen_ok,hsz,hu2,Sem.run_pure,hr.len,Bool.false_eq_true,if_false];rw[if_pos (by decide)];simp only[Bool.not_false,if_true,Sem.run_bind,hf,Result.andThen_ok,Bool.false_eq_true,if_false,Sem.run_pure]
end
def leN (i x:Nat):List Nat:=(List.range i).map fun j=>x / 256 ^ j%256
theorem ry (i x:Nat):(leN i x).length=i:=by simp[leN]
theorem aan (i x:Nat):leN (i+1) x=leN i x++[x / 256 ^ i%256]:=by simp[leN,List.range_succ]
theorem aa6 {i j:Nat} (x:Nat) (h:j<i):(leN i x)[j]?=some (x / 256 ^ j%256):=by simp[leN,h]
theorem adB {w i x:Nat} (h:i<w):(be w x)[w - (i+1)]?=some (x / 256 ^ i%256):=by
 rw[iq (by omega),show w - 1 - (w - (i+1))=i by omega,show (256:Nat)=2 ^ 8 by decide,← Nat.pow_mul]
def aeK (g c:Nat):Nat→Value
 | 0=>.slice none 0 0
 | i+1=>.slice (some ⟨g,0,none⟩) (i+1) c
def aeA (g x:Nat) (r:List Nat) (L:List Ent):Nat→List Ent
 | 0=>L
 | i+1=>⟨g,5,byC (leN (i+1) x++r)⟩::L
theorem Lle.same:∀ {L:List Ent},Lle L L
 | []=>trivial
 | _::_=>⟨_,_,.here,rfl,Lle.same⟩
theorem Lle.skip {e:Ent} {L:List Ent}:∀ {L' : List Ent},Lle L' L→Lle L' (e::L)
 | [],_=>trivial
 | _::_,⟨cs,L1,h1,h2,h3⟩=>⟨cs,e::L1,.there h1,h2,Lle.skip h3⟩
def aaW (o:Option (Nat × Nat × List Nat)) (n:Nat):Value:=match o with|none=>.slice none 0 0|some (g,c,_)=>.slice (some ⟨g,0,none⟩) n c
def abl (o:Option (Nat × Nat × List Nat)) (X:List Nat):List Ent:=match o with|none=>[]|some (g,_,r)=>[⟨g,5,byC (X++r)⟩]
def bo (o:Option (Nat × Nat × List Nat)) (X:List Nat):Prop:=match o with|none=>X=[]|some (_,c,r)=>(X++r).length=c∧c<9223372036854775808
section
variable {P:Program} {w0:World} {gs:List Nat} {n:Nat} {ops:List Oper} {Q:Exit→Act→World→Prop} {K:List (Nat × Value)} {L:List Ent} {rest:List Oper}
variable {d:Nat} {ty:TypeId} {pos:String} {after:Array Edge} {gd:Option (Nat × Bool)}
theorem WO.appFirst {st xt bts:Nat} {x y:Operand} {v:Value} {B:List Nat} [SlT P st 5 1] [SlT P xt 5 1] [ElT P 5 bts [Value.int .u8 0]] (hx:ev K x=some (.slice none 0 0)) (hy:ev K y=some v) (hr:Rds w0 gs L v B.length (byC B))
  (hb:bts≠0) (hnc:B.length*bts≤140737488355328) (hl:B.length<9223372036854775808)
  (k:∀ o,bo o B→WO P w0 gs n ops Q ((d,aaW o B.length)::K) (abl o B++L) rest) (hd:Nat.blt d n=true:=by rfl) (hw:wk ops K gd=some true:=by rfl) :
  WO P w0 gs n ops Q K L (⟨some d,.call { callee:=.builtin .append,args:=#[x,y],argTypes:=#[st,xt] },ty,pos,after,gd⟩::rest):=by
 by_cases h0:B=[]
 ·subst h0;exact WO.does (kA hx hy hr) (k none rfl) hd hw
 ·have hp:0<B.length:=List.length_pos_iff.2 h0;refine WO.news (vF (z:=[Value.int .u8 0]) (n:=B.length) hx hy (ys:=[]) Rds.nil rfl hr (by simp[zd]) (by omega) (by omega) (by simpa using growslice_fits (by omega) hnc) hb rfl) (fun s hs=>?_) hd hw;obtain⟨h1,h2⟩:=hs;rw[Nat.zero_add] at h1;have:=k (some (s 0,s 1,List.replicate (s 1 - B.length) 0)) ⟨by rw[List.length_append,List.length_replicate];omega,h2⟩;simpa [aaW,abl,zp,ni] using this
end
theorem dk (B:List Nat) (x wd c:Nat) (p:Option Addr) (h1:1≤wd) (h8:wd≤8) (hx:x<18446744073709551616) (hl:B.length≤549755813888) :
  Fn Tryz.prog 47 [.slice p B.length c,.int .u64 (x:Int),.int .i64 (wd:Int)] (fun w=>Rd (.slice p B.length c) B.length (byC B) w) (aax 5 (B++be wd x)):=by
 have hTl:(B++be wd x).length=B.length+wd:=by rw[List.length_append,zj]
 have hT0:(B++be wd x).take B.length=B:=List.take_left;have hTg:∀ i,i<wd→(B++be wd x)[B.length+(wd - (i+1))]?=some (x / 256 ^ i%256):=fun i hi=>by
  rw[List.getElem?_append_right (by omega),show B.length+(wd - (i+1)) - B.length=wd - (i+1) by omega];exact adB hi
 generalize B++be wd x=T at *;have hmax:(if (wd:Int) > 0 then (wd:Int) else 0)=(wd:Int):=if_pos (by omega);have hmin:(if (wd:Int)<8 then (wd:Int) else 8)=(wd:Int):=by split<;>omega
 refine Fn.enter Tryz.func47 rfl rfl rfl ?_;intro w hw
 repeat (first|refine Tw ?_|(refine Tm ?_;intro _)|exact Tz)
 refine WO.appFirst rfl rfl hw.rds (by decide) (by omega) (by omega) (fun o ho=>?_);rw[List.append_nil]
 repeat (first|refine Ta ?_|(refine Tm ?_;intro _)|refine WO.does (io rfl rfl hmax) ?_|refine WO.does (uq rfl rfl hmin) ?_|refine Tc ?_|exact Tz)
 refine WC.loopI (σ:=Nat × Nat × Nat × List Nat) (fun s=>s.1≤wd∧(0<s.1→(leN s.1 x++s.2.2.2).length=s.2.2.1∧s.2.2.1<9223372036854775808)) (fun s=>[(1,.int .u64 ((x / 256 ^ s.1:Nat):Int)),(6,.slice none 0 0),(7,aaW o B.length),(8,.int .i64 (wd:Int)),(9,aeK s.2.1 s.2.2.1 s.1),(10,.int .i64 (s.1:Int))]) (fun s=>aeA s.2.1 x s.2.2.2 (abl o B) s.1) (fun s=>wd - s.1) (0,0,0,[]) (fun s hs=>?_) ⟨Nat.zero_le _,fun h=>by omega⟩ (by
   dsimp only;rw[Nat.pow_zero,Nat.div_one]
   repeat (first|exact Kle.nil|refine Kle.cons rfl rfl ?_)) (by repeat (first|exact Lle.nil|exact Lle.same|refine Lle.cons Pk.a (by rfl) ?_|refine Lle.skip ?_))
 obtain⟨i,g,cl,rl⟩:=s;obtain⟨hi,hs⟩:=hs;dsimp only at hi hs ⊢
 by_cases hlt:i<wd
 ·have hr:=yP (x / 256 ^ i) 256;have hcv:=oq (x / 256 ^ i%256);rw[Nat.mod_mod] at hcv;have hq:=qT (x / 256 ^ i) 256 (Nat.lt_of_le_of_lt (Nat.div_le_self _ _) hx);rw[Nat.div_div_eq_div_mul,← Nat.pow_succ] at hq;have hsc:=aan i x;generalize hy' : x / 256 ^ (i+1)=y' at *;have hyv:Value.int .u64 ((y' : Nat):Int)=Value.int .u64 ((x / 256 ^ (i+1):Nat):Int):=by rw[hy']
  generalize x / 256 ^ i%256=z at *;generalize x / 256 ^ i=y at *
  repeat (first|refine Tw ?_|(refine Tm ?_;intro _)|exact Tz)
  refine WC.dT rfl (by omega) ?_
  repeat (first|refine Ta ?_|(refine Tm ?_;intro _)|refine WO.does (zP rfl rfl (by decide) hr) ?_|refine WO.does (zu rfl hcv) ?_|(refine WO.makes (ze (cs:=[.int .u8 (z:Int)]) rfl (by decide) rfl) ?_;intro g2)|refine Tc ?_|exact Tz)
  have hu:∀ i,i<wd→i<1099511627776:=fun i hi=>by omega
  cases i with
  | zero =>
   refine WO.news (vF (z:=[Value.int .u8 0]) (n:=1) rfl rfl (ys:=[]) Rds.nil rfl (Rds.own (m:=1) Hs.here rfl) rfl (by decide) (by decide) (by decide) (by decide) rfl) (fun s hs=>?_);obtain⟨hs1,hs2⟩:=hs;generalize s 0=g';generalize s 1=c' at *;rw[List.nil_append]
   repeat (first|refine Ta ?_|(refine Tm ?_;intro _)|refine WO.does (yy rfl rfl (by decide) hq) ?_|refine Tc ?_|exact Tz)
   refine WX.metI (1,g',c',List.replicate (c' - (0+1)) 0) (hk:=(by repeat (first|exact Kle.nil|refine Kle.cons rfl (by first|rfl|exact hyv) ?_))) (hl:=(by refine Lle.cons Pk.a (by show _=byC (leN (0+1) x++List.replicate (c' - (0+1)) 0);rw[hsc,zp,← ni];rfl) (Lle.skip Lle.same))) (hs:=⟨⟨by show 1≤wd;omega,fun _=>⟨by show (leN 1 x++_).length=c';rw[List.length_append,ry,List.length_replicate];omega,hs2⟩⟩,by show wd - 1<wd - 0;omega⟩)
  | succ i =>
   obtain⟨hs1,hs2⟩:=hs (by omega);refine WO.appZ (g:=g) (X:=leN (i+1) x) (R:=rl) (Y:=[z]) (m:=1) (l:=i+1+1) rfl rfl (by rw[ry]) hs1 (Pk.there Pk.here) (Rds.own (m:=1) Hs.here rfl) rfl rfl (by omega) hs2 (by omega) (by decide) (by decide) (fun g' c' r' hc1 hc2=>?_);rw[← hsc] at hc1 ⊢
   repeat (first|refine Ta ?_|(refine Tm ?_;intro _)|refine WO.does (yy rfl rfl (by decide) hq) ?_|refine Tc ?_|exact Tz)
   refine WX.metI (i+1+1,g',c',r') (hk:=(by repeat (first|exact Kle.nil|refine Kle.cons rfl (by first|rfl|exact hyv) ?_))) (hl:=(by repeat (first|exact Lle.nil|exact Lle.same|refine Lle.cons Pk.a (by rfl) ?_|refine Lle.skip ?_))) (hs:=⟨⟨by show i+1+1≤wd;omega,fun _=>⟨hc1,hc2⟩⟩,by show wd - (i+1+1)<wd - (i+1);omega⟩)
 ·have hiw:i=wd:=by omega
  obtain⟨hs1,hs2⟩:=hs (by omega);subst hiw;obtain⟨w',rfl⟩ : ∃ w',i=w' + 1:=⟨i - 1,by omega⟩
  repeat (first|refine Tw ?_|(refine Tm ?_;intro _)|exact Tz)
  refine WC.dF rfl (by omega) ?_
  repeat (first|refine Tw ?_|(refine Tm ?_;intro _)|exact Tz)
  refine WC.loopI (σ:=Nat × Option (Nat × Nat × List Nat)) (fun s=>s.1≤w' + 1∧bo s.2 (T.take (B.length+(w' + 1 - s.1)))) (fun s=>[(6,.slice none 0 0),(7,aaW s.2 (B.length+(w' + 1 - s.1))),(9,.slice (some ⟨g,0,none⟩) (w' + 1) cl),(11,.int .i64 ((s.1:Int) - 1))]) (fun s=>⟨g,5,byC (leN (w' + 1) x++rl)⟩::abl s.2 (T.take (B.length+(w' + 1 - s.1)))) (fun s=>s.1) (w' + 1,o) (fun s hs=>?_) ⟨Nat.le_refl _,by show bo o (T.take (B.length+(w' + 1 - (w' + 1))));rw[Nat.sub_self,Nat.add_zero,hT0];exact ho⟩ (by
    dsimp only;rw[Nat.sub_self,Nat.add_zero]
    repeat (first|exact Kle.nil|refine Kle.cons rfl rfl ?_)) (by
    dsimp only;simp only[Nat.sub_self,Nat.add_zero,hT0];exact Lle.same)
  obtain⟨j,o⟩:=s;obtain⟨hj,ho2⟩:=hs;dsimp only at hj ho2 ⊢;cases j with
  | zero =>
   have hpos:0<T.length:=by omega
   rw[Nat.sub_zero,← hTl,List.take_length] at ho2;rw[Nat.sub_zero,← hTl,List.take_length]
   rcases o with _|⟨g0,c0,r0⟩
   ·have h0:T=[]:=ho2;rw[h0] at hpos;simp at hpos
   ·obtain⟨hc1,hc2⟩:=ho2;simp only[aaW,abl]
    repeat (first|refine Tw ?_|(refine Tm ?_;intro _)|exact Tz)
    exact WX.ret1 rfl (zt rfl) [⟨g0,5,byC (T++r0)⟩] ⟨_,_,Pk.there Pk.here,rfl,trivial⟩ ⟨g0,c0,r0,rfl,rfl,hc1,hc2⟩
  | succ i =>
   rw[show (((i+1:Nat):Int) - 1)=(i:Int) by omega];have hget:(byC (leN (w' + 1) x++rl))[i]?=some (.int .u8 ((x / 256 ^ i%256:Nat):Int)):=by
    rw[zp,List.getElem?_append_left (by rw[zd,ry];omega)];simp[byC,aa6 x (show i<w' + 1 by omega)]
   have hTi:=hTg i (by omega);have hnx:T.take (B.length+(w' + 1 - i))=T.take (B.length+(w' + 1 - (i+1)))++[x / 256 ^ i%256]:=by
    rw[show B.length+(w' + 1 - i)=B.length+(w' + 1 - (i+1))+1 by omega];rw[List.getElem?_eq_some_iff] at hTi;obtain⟨hlt2,hTi⟩:=hTi;rw[List.take_succ_eq_append_getElem hlt2,hTi]
   generalize x / 256 ^ i%256=z at *;have hlX:(T.take (B.length+(w' + 1 - (i+1)))).length=B.length+(w' + 1 - (i+1)):=by rw[List.length_take];omega
   have hn2:B.length+(w' + 1 - i)=B.length+(w' + 1 - (i+1))+1:=by omega
   generalize hX:T.take (B.length+(w' + 1 - (i+1)))=X at *;generalize hm:B.length+(w' + 1 - (i+1))=m at *;have hmb:m<1099511627776:=by omega
   repeat (first|refine Ta ?_|(refine Tm ?_;intro _)|refine WO.does (zJ (hc:=hget)) ?_|(refine WO.makes (ze (cs:=[.int .u8 (z:Int)]) rfl (by decide) rfl) ?_;intro g2)|refine Tc ?_|exact Tz)
   rcases o with _|⟨g0,c0,r0⟩
   ·have h0:X=[]:=ho2;have hm0:m=0:=by rw[← hlX,h0];rfl
    simp only[aaW,abl];refine WO.news (vF (z:=[Value.int .u8 0]) (n:=1) rfl rfl (ys:=[]) Rds.nil rfl (Rds.own (m:=1) Hs.here rfl) rfl (by decide) (by decide) (by decide) (by decide) rfl) (fun s hs=>?_);obtain⟨hs1,hs2⟩:=hs;generalize s 0=g';generalize s 1=c' at *;rw[List.nil_append];have hbx:T.take (B.length+(w' + 1 - i))=[z]:=by rw[hnx,h0];rfl
    repeat (first|refine Tw ?_|(refine Tm ?_;intro _)|exact Tz)
    refine WX.metI (i,some (g',c',List.replicate (c' - (0+1)) 0)) (hk:=(by repeat (first|exact Kle.nil|refine Kle.cons rfl (by first|rfl|(show Value.slice _ (0+1) _=Value.slice _ (B.length+(w' + 1 - i)) _;rw[hn2,hm0])) ?_))) (hl:=(by
      refine Lle.c ?_;refine Lle.cons Pk.a (by show _=byC (T.take (B.length+(w' + 1 - i))++_);rw[hbx,zp,← ni];rfl) ?_;exact Lle.nil)) (hs:=⟨⟨by show i≤w' + 1;omega,by show (T.take (B.length+(w' + 1 - i))++_).length=c';rw[hbx,List.length_append,List.length_replicate];simp;omega,hs2⟩,by show i<i+1;omega⟩)
   ·obtain⟨hc1,hc2⟩:=ho2;simp only[aaW,abl];refine WO.appZ (g:=g0) (X:=X) (R:=r0) (Y:=[z]) (m:=1) (l:=m+1) rfl rfl hlX hc1 Pk.a (Rds.own (m:=1) Hs.here rfl) rfl rfl (by omega) hc2 (by omega) (by decide) (by decide) (fun g' c' r' hd1 hd2=>?_);rw[← hnx] at hd1 ⊢
    repeat (first|refine Tw ?_|(refine Tm ?_;intro _)|exact Tz)
    refine WX.metI (i,some (g',c',r')) (hk:=(by repeat (first|exact Kle.nil|refine Kle.cons rfl (by first|rfl|(show Value.slice _ (m+1) _=Value.slice _ (B.length+(w' + 1 - i)) _;rw[hn2])) ?_))) (hl:=(by repeat (first|exact Lle.nil|exact Lle.same|refine Lle.cons Pk.a (by rfl) ?_|refine Lle.skip ?_))) (hs:=⟨⟨by show i≤w' + 1;omega,hd1,hd2⟩,by show i<i+1;omega⟩)
end Sx
end
end Go.Proofs.YtbbppkkhidkjpaaGreatDoor
