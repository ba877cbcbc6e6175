/- Part 24 of the proof. -/
import Derived.Test.YtbbppkkhidkjpaaGreatDoorM20
import Derived.Test.YtbbppkkhidkjpaaGreatDoorM21
import Derived.Test.YtbbppkkhidkjpaaGreatDoorM23
set_option linter.unusedSimpArgs false
set_option linter.unusedVariables false
set_option maxHeartbeats 8000000
namespace Go.Proofs.YtbbppkkhidkjpaaGreatDoor
section
open Go Go.RowKit Go.BigFrame
namespace Sx
attribute [local irreducible] DQ DQS WC WO WX wd
section
variable {P:Program} {w0:World} {gs:List Nat} {K:List (Nat × Value)} {L:List Ent}
theorem lm {t elem size ty len cap l h b o o' m c2:Nat} {k k' : IntKind} {x y z:Operand} [SlT P t elem size] (hx:ev K x=some (.slice (some ⟨b,o,none⟩) len cap)) (hy:ev K y=some (.int k (l:Int))) (hz:ev K z=some (.int k' (h:Int))) (hlh:l≤h) (hh:h≤cap) (hc:l<cap) (ho' : o+l*size=o') (hm:h - l=m) (hcc:cap - l=c2) :
  Does P w0 gs K L (.slice t x (some y) (some z) none) ty (.slice (some ⟨b,o',none⟩) m c2):=by
 intro a w hk _ oo ho _;subst ho';subst hm;subst hcc;have hu:∀ w,(underlying t).run P w=.ok (.slice elem) w:=fun w=>by simp[underlying,SlT.under (P:=P) (t:=t)]
 have hb1:((0:Int)≤(h:Int)∧(h:Int)≤(cap:Int)):=by omega
 have hb2:((0:Int)≤(l:Int)∧(l:Int)≤(h:Int)):=by omega
 have hne:¬ cap=l:=by omega
 simp only[execOp,ho,hk.eval hx,Option.map_none,Option.map_some,hk.eval hy,hk.eval hz,Instr.sliceAt,Sem.run_bind,hu,Result.andThen_ok,Instr.slice,Sem.run_pure,Instr.sliceBounds,Instr.sliceBound,asIntOf,if_pos hb1,SlT.size (P:=P) (t:=t),Int.toNat_natCast,if_pos hb2];simp[hne,vJ]
end
section
variable {P:Program} {w0:World} {gs:List Nat} {n:Nat} {ops:List Oper} {Q:Exit→Act→World→Prop} {K:List (Nat × Value)} {L L2:List Ent} {rest:List Oper}
variable {d:Nat} {ty:TypeId} {pos:String} {after:Array Edge} {gd:Option (Nat × Bool)}
def PkO (L:List Ent) (o:Option (Nat × Nat × List Nat)) (X:List Nat) (L2:List Ent):Prop:=match o with|none=>L=L2|some (g,_,r)=>Pk L g 5 (byC (X++r)) L2
theorem WO.appO {o:Option (Nat × Nat × List Nat)} {st xt bts:Nat} {x y:Operand} {v:Value} {X Y:List Nat} [SlT P st 5 1] [SlT P xt 5 1] [ElT P 5 bts [Value.int .u8 0]] (ho:bo o X) (hx:ev K x=some (aaW o X.length)) (hy:ev K y=some v) (hp:PkO L o X L2)
  (hr:Rds w0 gs L v Y.length (byC Y)) (hY:0<Y.length) (hb:bts≠0) (hnc:(X.length+Y.length)*bts≤140737488355328) (hl:X.length+Y.length<9223372036854775808)
  (k:∀ g c r,(byC (X++Y)++r).length=c→c<9223372036854775808→WO P w0 gs n ops Q ((d,.slice (some ⟨g,0,none⟩) (X.length+Y.length) c)::K) (⟨g,5,byC (X++Y)++r⟩::L2) rest) (hd:Nat.blt d n=true:=by rfl) (hw:wk ops K gd=some true:=by rfl) :
  WO P w0 gs n ops Q K L (⟨some d,.call { callee:=.builtin .append,args:=#[x,y],argTypes:=#[st,xt] },ty,pos,after,gd⟩::rest):=by
 rcases o with _|⟨g0,c0,r0⟩
 ·have h0:X=[]:=ho;subst h0;have hp:L=L2:=hp;subst hp;refine WO.news (vF (z:=[Value.int .u8 0]) (n:=Y.length) hx hy (ys:=[]) Rds.nil rfl hr (by simp[zd]) (by simp at hl ⊢;omega) (by simp at hl ⊢;omega) (by simpa using growslice_fits (by omega) (by simpa using hnc)) hb rfl) (fun s hs=>?_) hd hw;obtain⟨h1,h2⟩:=hs;rw[Nat.zero_add] at h1;have:=k (s 0) (s 1) (mkz (s 1 - Y.length) [Value.int .u8 0]) (by rw[List.nil_append,List.length_append,zd,zC];simp;omega) h2;simpa using this
 ·obtain⟨h1,h2⟩:=ho;have hp:Pk L g0 5 (byC (X++r0)) L2:=hp;rw[zp] at hp;refine WO.appB (g:=g0) (xs:=byC X) (r:=byC r0) (ys:=byC Y) (m:=Y.length) (l:=X.length+Y.length) hx hy (zd _) (by rw[← zp,zd];exact h1) hp hr (zd _) (yF _) rfl hl h2 hnc hb (by decide) (fun g c r e1 e2=>?_) hd hw;rw[← zp] at e1 ⊢;exact k g c r e1 e2
end
set_option maxRecDepth 100000 in
theorem abX:Fn Tryz.prog 152 [] Tr (aal 172 64 (w3C Sha.K)):=by
 refine Fn.enter Tryz.func152 rfl rfl rfl ?_;intro w hw
 repeat (first|refine Ta ?_|(refine Tm ?_;intro _)|(refine WO.makes (ze (cs:=w3C Sha.K) rfl (by decide) (by kernel_rfl)) ?_;intro _)|refine Tc ?_|exact Tz)
 exact WX.retN
theorem abQ {l:Nat} (h:1≤l):(128::List.replicate (l+1 - 1) 0:List Nat)=128::List.replicate (l - 1) 0++[0]:=by
 rw[show l+1 - 1=l - 1+1 by omega,List.replicate_succ',← List.cons_append]
theorem lJ {x i:Nat} (h:i<8):(be 8 x).take (i+1)=(be 8 x).take i++[x / 2 ^ (8*(7 - i))%256]:=by
 have h1:i<(be 8 x).length:=by rw[zj];exact h
 have h2:=iq (x:=x) h;rw[List.getElem?_eq_some_iff] at h2;obtain⟨_,h2⟩:=h2;rw[List.take_succ_eq_append_getElem h1,h2,show 8 - 1 - i=7 - i by omega]
theorem jf {M:List Nat} {j:Nat} (h:64*j+64≤M.length):((M.drop (64*j)).take 64).length=64:=by rw[List.length_take,List.length_drop];omega
theorem dP {M:List Nat} {r:List Value} {j:Nat} (h:64*j+64≤M.length):cut (byC M++r) (64*j) 64=byC ((M.drop (64*j)).take 64):=by
 unfold cut;rw[List.drop_append_of_le_length (by rw[zd];omega),List.take_append_of_le_length (by rw[List.length_drop,zd];omega),tv,mi]
theorem af (n:Nat):(n+(mN n).length)%64=0:=by rw[yE];unfold Sha.pad;omega
set_option maxRecDepth 100000 in
theorem ad2 (X:List Nat) (c:Nat) (p:Option Addr) (hX:∀ x∈X,x<256) (hl:X.length≤1099511627776) :
  Fn Tryz.prog 99 [.slice p X.length c] (fun w=>Rd (.slice p X.length c) X.length (byC X) w) (Is (.agg (byC (Sha.sum X)).toArray)):=by
 have hPl:Sha.pad X.length≤63:=by unfold Sha.pad;omega
 have hpe:=cq (m:=X) (by omega);refine Fn.enter Tryz.func99 rfl rfl rfl ?_;intro w hw
 repeat (first|refine Tw ?_|(refine Tm ?_;intro _)|exact Tz)
 refine WO.appFirst rfl rfl hw.rds (by decide) (by omega) (by omega) (fun o ho=>?_)
 repeat (first|refine Ta ?_|(refine Tm ?_;intro _)|(refine WO.makes (ze (cs:=[.int .u8 128]) rfl (by decide) rfl) ?_;intro _)|refine Tc ?_|exact Tz)
 rename_i g2 g13;refine WO.appO (L2:=[⟨g13,5,[.int .u8 128]⟩,⟨g2,45,_⟩]) (Y:=[128]) ho rfl rfl (by rcases o with _|⟨g,c,r⟩<;>first|rfl|exact Pk.there Pk.here) (Rds.own (m:=1) Hs.here rfl) (by decide) (by decide) (by simp;omega) (by simp;omega) (fun g3 c3 r3 h1 h2=>?_)
 repeat (first|refine Tw ?_|(refine Tm ?_;intro _)|exact Tz)
 refine WC.loopI (σ:=Nat × Nat × Nat × List Value) (fun s=>1≤s.1∧s.1≤Sha.pad X.length+1∧(byC (X++128::List.replicate (s.1 - 1) 0)++s.2.2.2).length=s.2.2.1∧s.2.2.1<9223372036854775808) (fun s=>[(0,.slice p X.length c),(2,pt g2),(3,.slice (some ⟨s.2.1,0,none⟩) (X.length+s.1) s.2.2.1)])
  (fun s=>[⟨s.2.1,5,byC (X++128::List.replicate (s.1 - 1) 0)++s.2.2.2⟩,⟨g2,45,List.replicate 32 (.int .u8 0)⟩]) (fun s=>Sha.pad X.length+1 - s.1) (1,g3,c3,r3) (fun s hs=>?_) ⟨Nat.le_refl _,by show 1≤_;omega,h1,h2⟩
 clear h1 h2 ho;obtain⟨l,g3,c3,r3⟩:=s;obtain⟨hl1,hl2,h1,h2⟩:=hs;dsimp only at hl1 hl2 h1 h2 ⊢;have hstop:=j9 hl1 hl2;have hrem:=yP (X.length+l) 64
 by_cases hst:(X.length+l)%64=56
 ·have hlp:=hstop.1 hst;have hd:decide ((((X.length+l)%64:Nat):Int)≠56)=false:=decide_eq_false (fun h=>h (by omega))
  repeat (first|refine Ta ?_|(refine Tm ?_;intro _)|refine WO.does (zP rfl rfl (by decide) hrem) ?_|refine Tc ?_|exact Tz)
  rw[hd];have hcv:IntKind.u64.wrap ((X.length:Nat):Int)=((X.length:Nat):Int):=u64_in (by omega) (by omega);have hmu:=kb 8 X.length (by omega);have hA:X++128::List.replicate (l - 1) 0++(be 8 (8*X.length)).take 0=X++128::List.replicate (l - 1) 0:=by simp
  have hM:X++128::List.replicate (l - 1) 0++(be 8 (8*X.length)).take 8=Sha.padded X:=by
   rw[hpe,hlp,List.take_of_length_le (by rw[zj];omega)];unfold mN;simp
  have hAl:(X++128::List.replicate (l - 1) 0).length=X.length+l:=by simp;omega
  have hAb:∀ x∈X++128::List.replicate (l - 1) 0,x<256:=by
   intro x hx
   rcases List.mem_append.1 hx with hx|hx
   ·exact hX x hx
   ·rcases List.mem_cons.1 hx with rfl|hx
    ·decide
    ·rw[List.eq_of_mem_replicate hx];decide
  have hMl:(Sha.padded X).length=X.length+l+8:=by rw[hpe,List.length_append,yE];omega
  have hM64:(Sha.padded X).length%64=0:=by rw[hpe,List.length_append];exact af _
  have hMb:∀ x∈Sha.padded X,x<256:=by
   rw[hpe];intro x hx
   rcases List.mem_append.1 hx with hx|hx
   ·exact hX x hx
   ·exact eI _ x hx
  rw[← hA] at h1;clear hrem hstop hst hd hpe
  repeat (first|refine Ta ?_|(refine Tm ?_;intro _)|refine WO.does (zu rfl hcv) ?_|refine WO.does (z6 rfl rfl hmu) ?_|refine Tc ?_|exact Tz)
  rw[← hA];clear hA;generalize hN:X.length+l=N at *;generalize hAA:X++128::List.replicate (l - 1) 0=A at *;clear hcv hmu hAA
  refine WC.loopI (σ:=Nat × Nat × Nat × List Value) (fun s=>s.1≤8∧(byC (A++(be 8 (8*X.length)).take s.1)++s.2.2.2).length=s.2.2.1∧s.2.2.1<9223372036854775808) (fun s=>[(2,pt g2),(3,.slice (some ⟨s.2.1,0,none⟩) (N+s.1) s.2.2.1),(4,.int .u64 ((8*X.length:Nat):Int)),(5,.int .i64 (s.1:Int))])
   (fun s=>[⟨s.2.1,5,byC (A++(be 8 (8*X.length)).take s.1)++s.2.2.2⟩,⟨g2,45,List.replicate 32 (.int .u8 0)⟩]) (fun s=>8 - s.1) (0,g3,c3,r3) (fun s hs=>?_) ⟨Nat.zero_le _,h1,h2⟩
  clear h1 h2;obtain⟨i,g3,c3,r3⟩:=s;obtain⟨hi,h1,h2⟩:=hs;dsimp only at hi h1 h2 ⊢
  by_cases hlt:i<8
  ·have hm8:=o7 8 i (by omega);have hsb:IntKind.i64.wrap (56 - ((8*i:Nat):Int))=((8*(7 - i):Nat):Int):=zl (by omega) (by omega) (by omega);have hsh:=nA (8*X.length) (8*(7 - i)) (by omega);have hcv:=oq (8*X.length / 2 ^ (8*(7 - i)));have hnx:=lJ (x:=8*X.length) hlt;have hbl:((be 8 (8*X.length)).take i).length=i:=by rw[List.length_take,zj];omega
   have hNi:(A++(be 8 (8*X.length)).take i).length=N+i:=by rw[List.length_append,hbl,hAl]
   generalize 8*X.length / 2 ^ (8*(7 - i))=z at *;generalize (be 8 (8*X.length)).take i=T at *
   repeat (first|refine Tw ?_|(refine Tm ?_;intro _)|exact Tz)
   refine WC.dT rfl (by omega) ?_
   repeat (first|refine Ta ?_|(refine Tm ?_;intro _)|refine WO.does (z6 rfl rfl hm8) ?_|refine WO.does (zA rfl rfl hsb) ?_|refine WO.does (yW rfl rfl (by omega) hsh) ?_|refine WO.does (zu rfl hcv) ?_|(refine WO.makes (ze (cs:=[.int .u8 ((z%256:Nat):Int)]) rfl (by decide) rfl) ?_;intro _)|refine Tc ?_|exact Tz)
   refine WO.appB (g:=g3) (xs:=byC (A++T)) (r:=r3) (ys:=[.int .u8 ((z%256:Nat):Int)]) (m:=1) (l:=N+i+1) rfl rfl (by rw[zd,hNi]) h1 (Pk.there Pk.here) (Rds.own (m:=1) Hs.here rfl) rfl rfl rfl (by omega) h2 (by omega) (by decide) (by decide) (fun g' c' r' hd1 hd2=>?_);rw[show byC (A++T)++[.int .u8 ((z%256:Nat):Int)]=byC (A++(be 8 (8*X.length)).take (i+1)) by rw[hnx,← List.append_assoc,zp (A++T)];rfl] at hd1 ⊢
   repeat (first|refine Tw ?_|(refine Tm ?_;intro _)|exact Tz)
   refine WX.metI (i+1,g',c',r') (hs:=⟨⟨by show i+1≤8;omega,hd1,hd2⟩,by show 8 - (i+1)<8 - i;omega⟩)
  ·have hi8:i=8:=by omega
   rw[show (be 8 (8*X.length)).take i=(be 8 (8*X.length)).take 8 by rw[hi8],hM] at h1 ⊢;rw[show N+i=(Sha.padded X).length by omega];have hsum:Sha.sum X=Sha.outs (Sha.takes Sha.H0 (Sha.padded X) ((Sha.padded X).length / 64)):=rfl;rw[hsum];have hMb40:(Sha.padded X).length≤1099511627999:=by omega
   clear hM hsum hMl hAl hAb hN;generalize Sha.padded X=M at *
   repeat (first|refine Tw ?_|(refine Tm ?_;intro _)|exact Tz)
   refine WC.dF rfl (by omega) ?_
   repeat (first|refine Ta ?_|(refine Tm ?_;intro _)|refine WO.does (zM (cs:=w3C Sha.H0) rfl rfl rfl) ?_|refine WO.stores (zB (vs:=w3C Sha.H0) (cs':=w3C Sha.H0)) ?_|(refine WO.acallN (hc:=abX) (hR:=fun _ _=>trivial) (k:=?_);intro _)|refine Tc ?_|exact Tz)
   clear hlt hi hi8;rename_i g6 gk
   refine WC.loopI (σ:=Nat) (fun j=>64*j≤M.length) (fun j=>[(2,pt g2),(3,.slice (some ⟨g3,0,none⟩) M.length c3),(6,pt g6),(7,.slice (some ⟨gk,0,none⟩) 64 64),(8,.int .i64 ((64*j:Nat):Int))])
    (fun j=>[⟨g3,5,byC M++r3⟩,⟨g2,45,List.replicate 32 (.int .u8 0)⟩,⟨g6,173,w3C (Sha.takes Sha.H0 M j)⟩,⟨gk,172,w3C Sha.K⟩]) (fun j=>M.length - 64*j) 0 (fun j hj=>?_) (by show 64*0≤M.length;omega)
   try dsimp only at hj ⊢
   have hcM:M.length≤c3:=by rw[← h1,List.length_append,zd];omega
   by_cases hlt:64*j<M.length
   ·have hj64:64*j+64≤M.length:=by omega
    have ht8:=vj (s:=Sha.H0) (b:=M) rfl j;have htl:=il (b:=M) j;have hnx:Sha.takes Sha.H0 M (j+1)=Sha.take (Sha.takes Sha.H0 M j) ((M.drop (64*j)).take 64):=rfl;have hck:=dP (r:=r3) hj64;have hdl:=jf hj64;have hdb:∀ x∈(M.drop (64*j)).take 64,x<256:=fun x hx=>hMb x (List.mem_of_mem_drop (List.mem_of_mem_take hx));have ha:=zl (x:=((64*j:Nat):Int)+64) (r:=((64*j+64:Nat):Int)) (by omega) (by omega) (by omega);have htk8:=vj (s:=Sha.H0) (b:=M) rfl (j+1);rw[hnx] at htk8;have hge:64*(j+1)=64*j+64:=by omega
    generalize hTT:Sha.takes Sha.H0 M j=T at *;generalize hCC:(M.drop (64*j)).take 64=C at *;obtain⟨t0,t1,t2,t3,t4,t5,t6,t7,rfl⟩:=eight ht8;have hB:=abn t0 t1 t2 t3 t4 t5 t6 t7 C g3 (64*j) (c3 - 64*j) gk hdb hdl htl;generalize Sha.take [t0,t1,t2,t3,t4,t5,t6,t7] C=T' at *
    repeat (first|refine Tw ?_|(refine Tm ?_;intro _)|exact Tz)
    refine WC.dT rfl (by omega) ?_
    repeat (first|refine Tw ?_|(refine Tm ?_;intro _)|exact Tz)
    refine WC.adraw 8 (k:=?_)
    repeat (first|refine Da ?_|refine DQ.does (fun s _=>zh rfl rfl ha) Dp.const ?_|refine DQ.does (v:=fun _=>.slice (some ⟨g3,64*j,none⟩) 64 (c3 - 64*j)) (fun s _=>lm (l:=64*j) (h:=64*j+64) rfl rfl rfl (by omega) (by omega) (by omega) (by omega) (by omega) rfl) Dp.const ?_|refine DQ.acallR (hc:=hB) (hR:=fun w' hm=>⟨by have:=(Hs.seg (g:=g3) (t:=5) (cs:=byC M++r3) Hs.a hm).sub hck;rwa [Nat.zero_add] at this,Hs.sg hm⟩) (k:=?_)|refine Dc ?_)
    refine DQ.anil (k:=?_);intro sx _;have hov8:over (w3C [t0,t1,t2,t3,t4,t5,t6,t7]) 0 (w3C T')=w3C T':=ve (by rw[zm,zm,htk8];rfl)
    repeat (first|refine Ta ?_|(refine Tm ?_;intro _)|refine WO.stores (zB (vs:=w3C T') (hl:=by rw[zm,htk8]) (h1:=rb T') (hc:=hov8) (hle:=by rw[zm,htk8];rfl)) ?_|refine WO.does (zh rfl rfl ha) ?_|refine Tc ?_|exact Tz)
    refine WX.metI (j+1) (hk:=(by repeat (first|exact Kle.nil|refine Kle.cons rfl (by first|rfl|(rw[hge])) ?_))) (hl:=(by repeat (first|exact Lle.nil|refine Lle.cons Pk.a (by first|rfl|(rw[hnx])) ?_))) (hs:=⟨by show 64*(j+1)≤M.length;omega,by show M.length - 64*(j+1)<M.length - 64*j;omega⟩)
   ·have hjq:M.length / 64=j:=by omega
    rw[hjq];have hs8:=vj (s:=Sha.H0) (b:=M) rfl j;generalize Sha.takes Sha.H0 M j=T at *;have hT32:(Sha.outs T).length=32:=by rw[vW,hs8]
    repeat (first|refine Tw ?_|(refine Tm ?_;intro _)|exact Tz)
    refine WC.dF rfl (by omega) ?_
    repeat (first|refine Tw ?_|(refine Tm ?_;intro _)|exact Tz)
    rename_i g9;clear hlt hjq hj hcM hMb hM64 h1;refine WC.loopI (σ:=Nat) (fun i=>i≤32) (fun i=>[(2,pt g2),(6,pt g6),(9,pt g9),(10,.int .i64 (i:Int))]) (fun i=>[⟨g2,45,List.replicate 32 (.int .u8 0)⟩,⟨g6,173,w3C T⟩,⟨g9,45,pad (Sha.outs T) i⟩]) (fun i=>32 - i) 0 (hl:=(by repeat (first|exact Lle.nil|refine Lle.cons Pk.a (by first|rfl|(unfold pad;rw[hT32];rfl)) ?_))) (fun i hi=>?_) (Nat.zero_le _)
    try dsimp only at hi ⊢
    by_cases hlt:i<32
    ·have hT1:=j6 (s:=T) (i:=i) (by omega);have hov:=nJ hT1;have hq:=ra i 4 (by omega);have hr:=yP i 4;have hm:=o7 (i%4) 8 (by omega);have hm' : IntKind.i64.wrap (8*((i%4:Nat):Int))=((i%4*8:Nat):Int):=zl (by omega) (by omega) (by omega);have hsb:IntKind.i64.wrap (24 - ((i%4*8:Nat):Int))=((8*(3 - i%4):Nat):Int):=zl (by omega) (by omega) (by omega);have hw1:=uV (getD_get (l:=T) (i:=i / 4) (by omega));have hsh:((T.getD (i / 4) 0:Nat):Int).fdiv (2 ^ min (((8*(3 - i%4):Nat):Int)).toNat IntKind.u32.bits)=((T.getD (i / 4) 0 / 2 ^ (8*(3 - i%4)):Nat):Int):=uG (by show 8*(3 - i%4)≤32;omega);have hpl1:(pad (Sha.outs T) i).length=32:=by rw[rh (by omega),hT32]
     generalize T.getD (i / 4) 0 / 2 ^ (8*(3 - i%4))=vv at *
     repeat (first|refine Tw ?_|(refine Tm ?_;intro _)|exact Tz)
     refine WC.dT rfl (by omega) ?_
     repeat (first|refine WO.does (yy rfl rfl (by decide) hq) ?_|refine WO.does (zJ (hc:=hw1)) ?_|refine WO.does (zP rfl rfl (by decide) hr) ?_|refine WO.does (z6 rfl rfl hm) ?_|refine WO.does (z6 rfl rfl hm') ?_|refine WO.does (zA rfl rfl hsb) ?_|refine WO.does (yW rfl rfl (by omega) hsh) ?_|refine WO.does (zu rfl (oq _)) ?_|refine WO.stores (zB (hc:=hov) (hle:=by rw[hpl1];exact Nat.ble_eq_true_of_le hlt)) ?_|refine Ta ?_|(refine Tm ?_;intro _)|refine Tc ?_|exact Tz)
     exact WX.metI (i+1) (hs:=⟨by omega,by omega⟩)
    ·have hi3:i=32:=by omega
     have hpf:pad (Sha.outs T) 32=byC (Sha.outs T):=by rw[← hT32];exact o5 _
     have hbl32:(byC (Sha.outs T)).length=32:=by rw[zd,hT32]
     rw[show pad (Sha.outs T) i=byC (Sha.outs T) by rw[hi3];exact hpf];generalize Sha.outs T=U at *
     repeat (first|refine Tw ?_|(refine Tm ?_;intro _)|exact Tz)
     refine WC.dF rfl (by omega) ?_
     repeat (first|refine WO.does (zz (vs:=byC U) (hc:=yl hbl32) (hl:=hbl32)) ?_|refine WO.stores (zB (vs:=byC U) (cs':=byC U) (hl:=hbl32) (h1:=yF _) (hc:=ve (by rw[hbl32];rfl)) (hle:=by rw[hbl32];rfl)) ?_|refine Ta ?_|(refine Tm ?_;intro _)|refine Tc ?_|exact Tz)
     exact WX.aret1 (hr:=uh (vs:=byC U) (hc:=yl hbl32) (hl:=hbl32)) (hp:=rfl)
 ·have hd:decide ((((X.length+l)%64:Nat):Int)≠56)=true:=decide_eq_true (fun h=>hst (by omega));have hlp:l≠Sha.pad X.length+1:=fun h=>hst (hstop.2 h);have hAl:(X++128::List.replicate (l - 1) 0).length=X.length+l:=by simp;omega
  have hnx:X++128::List.replicate (l+1 - 1) 0=X++128::List.replicate (l - 1) 0++[0]:=by rw[abQ hl1,List.append_assoc]
  repeat (first|refine Ta ?_|(refine Tm ?_;intro _)|refine WO.does (zP rfl rfl (by decide) hrem) ?_|refine Tc ?_|exact Tz)
  rw[hd]
  repeat (first|refine Ta ?_|(refine Tm ?_;intro _)|(refine WO.makes (ze (cs:=[.int .u8 0]) rfl (by decide) rfl) ?_;intro _)|refine Tc ?_|exact Tz)
  refine WO.appB (g:=g3) (xs:=byC (X++128::List.replicate (l - 1) 0)) (r:=r3) (ys:=[.int .u8 0]) (m:=1) (l:=X.length+l+1) rfl rfl (by rw[zd,hAl]) h1 (Pk.there Pk.here) (Rds.own (m:=1) Hs.here rfl) rfl rfl rfl (by omega) h2 (by omega) (by decide) (by decide) (fun g' c' r' hd1 hd2=>?_);rw[show byC (X++128::List.replicate (l - 1) 0)++[.int .u8 0]=byC (X++128::List.replicate (l+1 - 1) 0) by rw[hnx,zp (X++128::List.replicate (l - 1) 0)];rfl] at hd1 ⊢
  repeat (first|refine Tw ?_|(refine Tm ?_;intro _)|exact Tz)
  refine WX.metI (l+1,g',c',r') (hs:=⟨⟨by show 1≤l+1;omega,by show l+1≤Sha.pad X.length+1;omega,hd1,hd2⟩,by show Sha.pad X.length+1 - (l+1)<Sha.pad X.length+1 - l;omega⟩)
end Sx
end
end Go.Proofs.YtbbppkkhidkjpaaGreatDoor
