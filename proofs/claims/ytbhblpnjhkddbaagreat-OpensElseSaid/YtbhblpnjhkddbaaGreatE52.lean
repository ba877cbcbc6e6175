/- Part 52 of the proof. -/
import Derived.Test.YtbhblpnjhkddbaaGreatE50
set_option linter.unusedSimpArgs false
set_option linter.unusedVariables false
set_option maxHeartbeats 8000000
namespace Go.Proofs.YtbhblpnjhkddbaaGreat
section
open Go Go.RowKit Go.BigFrame
namespace Sx
def bdO (n:Nat) (o:Od):Nat→Od
 | 0=>⟨(o.e+1)%18446744073709551616,o.d,o.n,o.z,o.c,o.s⟩
 | 1=>⟨o.e,o.d%n+1,o.n,o.z,o.c,o.s⟩
 | 2=>⟨o.e,o.d,0,o.z,o.c,o.s⟩
 | 3=>⟨o.e,o.d,n+1,o.z,o.c,o.s⟩
 | _=>⟨o.e,o.d,o.n,0,o.c,o.s⟩
def bdL (n:Nat) (o:Od):List Od:=[bdO n o 0,bdO n o 1,bdO n o 2,bdO n o 3,bdO n o 4]
theorem aY {n:Nat} {o:Od}:∀ {i:Nat},i<5→(bdL n o)[i]?=some (bdO n o i)
 | 0,_=>rfl
 | 1,_=>rfl
 | 2,_=>rfl
 | 3,_=>rfl
 | 4,_=>rfl
 | i+5,h=>by omega
def j9 (n:Nat) (o b:Od):Prop:=b.e≠o.e∨b.d≠o.d∨b.n=0∨b.n=n+1∨b.z=0
theorem dh {n:Nat} {o:Od} (he:o.e<18446744073709551616):∀ i,i<5→bdO n o i=o∨j9 n o (bdO n o i)
 | 0,_=>.inr (.inl (by show (o.e+1)%18446744073709551616≠o.e;omega))
 | 1,_=>by
  by_cases h:o.d%n+1=o.d
  ·refine .inl ?_;show (⟨o.e,o.d%n+1,o.n,o.z,o.c,o.s⟩ : Od)=o;rw[h]
  ·exact .inr (.inr (.inl h))
 | 2,_=>.inr (.inr (.inr (.inl rfl)))
 | 3,_=>.inr (.inr (.inr (.inr (.inl rfl))))
 | 4,_=>.inr (.inr (.inr (.inr (.inr rfl))))
 | i+5,h=>by omega
theorem acM {n:Nat} {o:Od} (h0:0<n) (hn:n<200) (k:qe o):∀ i,i<5→qe (bdO n o i)
 | 0,_=>⟨Nat.mod_lt _ (by decide),k.d,k.n,k.z,k.c,k.s⟩
 | 1,_=>⟨k.e,by have:=Nat.mod_lt o.d h0;show o.d%n+1<256;omega,k.n,k.z,k.c,k.s⟩
 | 2,_=>⟨k.e,k.d,by show (0:Nat)<256;decide,k.z,k.c,k.s⟩
 | 3,_=>⟨k.e,k.d,by show n+1<256;omega,k.z,k.c,k.s⟩
 | 4,_=>⟨k.e,k.d,k.n,by show (0:Nat)<zc;decide,k.c,k.s⟩
 | i+5,h=>by omega
section
variable {p q g h:Nat} {f sec:Int} {N:List (Nat × Nat)} {ep d:Nat} {o b:Od} {Y:List Nat}
theorem aca (hn:1≤o.n∧o.n≤N.length) (hz:o.z≠0) (hb:j9 N.length o b):acN b o:=by
 rcases hb with h|h|h|h|h
 ·exact .inl h
 ·exact .inr (.inl h)
 ·exact .inr (.inr (.inl (by omega)))
 ·exact .inr (.inr (.inl (by omega)))
 ·exact .inr (.inr (.inr (by rw[h];exact fun e=>hz e.symm)))
theorem ab7 (he:o.e=ep) (hd:o.d=d) (hb:j9 N.length o b):er p q g h f sec N ep d Y b.e b.d b.n b.z b.c b.s=false:=by
 subst he hd;unfold er
 rcases hb with h|h|h|h|h
 ·rw[decide_eq_false h];simp
 ·rw[decide_eq_false h];simp
 ·rw[h,show vI 0 N=false from rfl];simp
 ·rw[h,show vI (N.length+1) N=false by unfold vI;rw[decide_eq_false (show ¬ N.length+1≤N.length by omega),Bool.and_false]];simp
 ·rw[h];have:∀ (s:List Nat) (base a B c S:Nat),ckB p q s base a 0 B c S=false:=fun s base a B c S=>by
   unfold ckB gIn yD;simp
  rw[this,Bool.and_false]
theorem fA {k:Nat} {ls:List Od} (he:∀ x∈ls,x.e=ep) (hd:∀ x∈ls,x.d=d) (hoe:o.e=ep) (hod:o.d=d) (h1:1<ls.length) (hk:k<ls.length) (hb:j9 N.length o b) :
  yB p q g h f sec N (ls.set k b)=false:=by
 cases hB:yB p q g h f sec N (ls.set k b) with
 | false=>rfl
 | true =>
  exfalso;have hall:=(tb (p:=p) (q:=q) (g:=g) (h:=h) (f:=f) (sec:=sec) (N:=N) (ls:=ls.set k b) hB).2.2.1;have hk2:(ls.set k b)[k]?=some b:=by rw[List.getElem?_set_self hk]
  have hbk:=uc (p:=p) (N:=N) (hall b (List.mem_of_getElem? hk2))
  obtain⟨j,hj,hjk⟩ : ∃ j,j<ls.length∧k≠j:=by
   by_cases e:k=0
   ·exact⟨1,h1,by omega⟩
   ·exact⟨0,by omega,e⟩
  obtain⟨x,hx⟩ : ∃ x,ls[j]?=some x:=⟨_,List.getElem?_eq_getElem hj⟩;have hx2:(ls.set k b)[j]?=some x:=by rw[List.getElem?_set_ne hjk];exact hx
  have hbx:=uc (p:=p) (N:=N) (hall x (List.mem_of_getElem? hx2));have hxm:=List.mem_of_getElem? hx;have hxe:=he x hxm;have hxd:=hd x hxm
  rcases hb with h|h|h|h|h
  ·exact h (by rw[hbk.1,← hbx.1,hxe,hoe])
  ·exact h (by rw[hbk.2.1,← hbx.2.1,hxd,hod])
  ·have:=hbk.2.2.1;omega
  ·have:=hbk.2.2.2.1;omega
  ·have h5:=hbk.2.2.2.2;rw[h] at h5;have:=(yF h5).2.1;exact this rfl
end
end Sx
end
section
open Go Go.RowKit Go.BigFrame
namespace Sx
attribute [local irreducible] DQ DQS WC WO WX wd
theorem aV {o u:Od} (r:List Value):over (odC o++r) 0 (odC u)=odC u++r:=rfl
section
variable {w0:World} {gs:List Nat} {K:List (Nat × Value)} {L:List Ent}
theorem jt {x y:Operand} {yt ty:TypeId} {o:Od} (ho:qe o) (hx:ev K x=some (.agg (odC o).toArray)) (hy:ev K y=some (.agg (odC o).toArray)):Does Tryz.prog w0 gs K L (.binOp .eql 46 x y yt) ty (.bool true):=by
 intro ac w hk _ oo hoo _;simp only[execOp,hoo,hk.eval hx,hk.eval hy,Sem.run_bind,ss,Result.andThen_ok,run_eql_struct,ms o ho,Sem.run_pure]
end
theorem eH {l:List Od} {k:Nat} {x:Od} (h:l[k]?=some x):l.set k x=l:=by
 obtain⟨hk,e⟩:=List.getElem?_eq_some_iff.1 h;refine List.ext_getElem (by simp) (fun i h1 h2=>?_);rw[List.getElem_set];split
 ·rename_i e2;subst e2;exact e.symm
 ·rfl
def fwL (n:Nat) (O:Nat→Od):List Od:=(List.range n).map O
theorem o5 (n:Nat) (O:Nat→Od):(fwL n O).length=n:=by simp[fwL]
theorem abM {n k:Nat} {O:Nat→Od} (hk:k<n):(fwL n O)[k]?=some (O k):=by unfold fwL;rw[List.getElem?_map,List.getElem?_range hk];rfl
theorem iI {n:Nat} {O:Nat→Od} {x:Od} (h:x∈fwL n O):∃ t,t<n∧x=O t:=by
 unfold fwL at h;obtain⟨t,ht,rfl⟩:=List.mem_map.1 h;exact⟨t,List.mem_range.1 ht,rfl⟩
theorem ab5 {p q g h:Nat} {f sec:Int} {N:List (Nat × Nat)} {ep d:Nat} {l X:List Nat} {O:Nat→Od} (hO:∀ t,t<N.length→OpF p q g h f sec N ep d l X O t):OpL p q h N l ep d (fwL N.length O) :=
 ab2 hO List.nodup_range (fun t ht=>List.mem_range.1 ht)
section
variable (p q g h:Nat) (F m:Nat) (pt:Option Addr) (c:Nat) (N:List (Nat × Nat)) (l:List Nat) (ep d:Nat) (ls:List Od)
theorem ku (hp:p<zc) (hq:q<zc) (hg:g<zc) (hh:h<zc) (hN:yC N) (hNl:N.length≤100) (hP:Pri q) (hs:vl p q g h (F:Int) (m:Int) N=true)
  (hk:∀ o∈ls,qe o) (hlen:F+m≤ls.length) (hle:ls.length≤N.length) (hB:yB p q g h (F:Int) (m:Int) N ls=true) (n:Nat) (hn:ls.length=n) :
  ∃ R:List Nat,∀ pl cl,Fn Tryz.prog 16 [stV p q g h (F:Int) (m:Int) (.slice pt N.length c),.slice pl n cl] (fun w=>RdF y7 (.slice pt N.length c) N w∧RdF odC (.slice pl n cl) ls w)
   (Ex (fun s=>.tuple #[.slice (some ⟨s 0,0,none⟩) m m,.int .i64 0]) (fun s=>[⟨s 0,24,R.flatMap zb⟩]) (fun _=>True)):=by
 subst hn;have hsp:=yo hs;obtain⟨_,hR⟩:=acl hB hsp.2.1 hsp.2.2.1 (M:=F+m) (by omega) hk;have hO:=rJ (q:=q) (ks:=rKs N.length (F+m) ls) (fun e=>by have:=hR.kl;rw[e] at this;simp at this;omega) hR.nd hR.lt (by rw[hR.kl];omega);exact⟨_,fun pl cl=>ce p q g h F m pt c N ls pl cl hp hq hg hh hN hNl hs hk hlen hle hB (pI hP hO (Nat.le_refl _))⟩
end
section
variable (p q g h:Nat) (F m:Nat) (pt:Option Addr) (c:Nat) (N:List (Nat × Nat)) (ep d x:Nat) (pz:Option Addr) (cz:Nat) (l:List Nat) (px:Option Addr) (cx:Nat) (X:List Nat) (a:Nat)
theorem j5 (hA:Fn Tryz.prog 9 [] Tr (Is (.bool true))) (hp:p<zc) (hq:q<zc) (hg:g<zc) (hh:h<zc) (hN:yC N) (hl:∀ a∈l,a<zc) (hX:∀ a∈X,a<zc) (ha:a<256)
  (hd:d<256) (hx:x<zc) (hep:ep<18446744073709551616) (hF:F≤2) (hm:m≤3) (e1:sF p q g h (F:Int) (m:Int) N l d x X=true) :
  Fn Tryz.prog 5 [stV p q g h (F:Int) (m:Int) (.slice pt N.length c),dtV ep d (.slice pz l.length cz) x (.slice px X.length cx),.int .u8 (a:Int)]
   (fun w=>RdF y7 (.slice pt N.length c) N w∧RdF zb (.slice pz l.length cz) l w∧RdF zb (.slice px X.length cx) X w) (Is (.bool true)):=by
 have hD':=(oM p q g h (F:Int) (m:Int) pt c N ep d x pz cz l px cx X hp hq hg hh hN hl hX (by omega) (by omega) (by omega) (by omega) hd hx hep).weak (post':=dtY p q g l N ep d x) (fun w hw=>hw) (fun v L hv=>hv.1 e1);unfold dtY at hD';obtain⟨eF,hXl,hNS,eD⟩:=u9 e1;obtain⟨hP,hS,hlen,hall,hNl,hln⟩:=uz eF;obtain⟨hn1,hn7,hnq,hf0,hsec1,hfs,hmg,hmh⟩:=yo hS;obtain⟨O,hO⟩:=jG e1 hp hq hep hd;have hhI:gIn p q h=true:=(hNS 0 (by omega)).more.1;have hq0:0<q:=by omega
 obtain⟨⟨hp1,_,_⟩,_⟩:=vK hhI;have hlFm:l.length=F+m:=by omega
 have hFm:F+m≤N.length:=by
  have hS':=hS;unfold vl at hS';simp only[Bool.and_eq_true,decide_eq_true_eq] at hS';omega
 have hdY:=bK (q:=q) (l:=l) (N:=N) (n:=N.length) hp;have hYl:(dYs p q l N N.length).length=N.length:=by simp[dYs]
 have hcO:=fun (n s:Nat) (hn:n<256) (hs:s<zc) gY sC sS pV pP=>fZ p q g h (F:Int) (m:Int) pt c N ep d n s (some ⟨gY,0,none⟩) N.length (dYs p q l N N.length) sC sS pV pP hp hq hg hh hN (by omega) (by omega) (by omega) (by omega) (by omega) hn hs hdY hep hd;have hcC:=fun (b:Od) (ok:qe b) gY sC sS pV pP=>ko p q g h (F:Int) (m:Int) pt c N ep d (some ⟨gY,0,none⟩) N.length (dYs p q l N N.length) sC sS b.e b.d b.n b.z b.c b.s pV pP hp hq hg hh hN (by omega) (by omega) (by omega) (by omega) (by omega) hep hd hdY ok.e ok.d ok.n ok.z ok.c ok.s;have hOr:∀ t,t<N.length→opR p q g h (F:Int) (m:Int) N ep d (t+1) (X.getD t 0) (dYs p q l N N.length)=.tuple #[.agg (odC (O t)).toArray,.int .i64 0]:=fun t ht=>(hO t ht).r;have hOn:∀ t,t<N.length→(O t).n=t+1:=fun t ht=>(hO t ht).n;have hOe:∀ t,t<N.length→(O t).e=ep:=fun t ht=>(hO t ht).e;have hOd:∀ t,t<N.length→(O t).d=d:=fun t ht=>(hO t ht).d;have hOk:∀ t,t<N.length→qe (O t):=fun t ht=>(hO t ht).ok;have hOz:∀ t,t<N.length→(O t).z≠0:=fun t ht=>(yF (y8 (q:=q) (by rw[(hO t ht).z];exact tU hhI hq0 _))).2.1;have hOck:∀ t,t<N.length→er p q g h (F:Int) (m:Int) N ep d (dYs p q l N N.length) (O t).e (O t).d (O t).n (O t).z (O t).c (O t).s=true:=fun t ht=>by
  have:=(hO t ht).ck;rw[(hO t ht).e,(hO t ht).d,(hO t ht).n];exact this
 have hRall:∃ R:List Nat,∀ pl cl,Fn Tryz.prog 16 [stV p q g h (F:Int) (m:Int) (.slice pt N.length c),.slice pl N.length cl] (fun w=>RdF y7 (.slice pt N.length c) N w∧RdF odC (.slice pl N.length cl) (fwL N.length O) w)
   (Ex (fun s=>.tuple #[.slice (some ⟨s 0,0,none⟩) m m,.int .i64 0]) (fun s=>[⟨s 0,24,R.flatMap zb⟩]) (fun _=>True)):=by
  have k:=ab5 hO;have hl:=o5 N.length O;exact ku p q g h F m pt c N (fwL N.length O) hp hq hg hh hN hNl hP hS k.ok (by omega) (by omega) (k.raise hS (by omega) hq0) N.length hl
 have hRset:∀ k,k<N.length→∀ b,qe b→j9 N.length (O k) b →
   (∀ pl cl,Fn Tryz.prog 16 [stV p q g h (F:Int) (m:Int) (.slice pt N.length c),.slice pl N.length cl] (fun w=>RdF y7 (.slice pt N.length c) N w∧RdF odC (.slice pl N.length cl) ((fwL N.length O).set k b) w) (Is r7)) ∨
   (N.length=1∧∃ R:List Nat,∀ pl cl,Fn Tryz.prog 16 [stV p q g h (F:Int) (m:Int) (.slice pt N.length c),.slice pl N.length cl] (fun w=>RdF y7 (.slice pt N.length c) N w∧RdF odC (.slice pl N.length cl) ((fwL N.length O).set k b) w)
    (Ex (fun s=>.tuple #[.slice (some ⟨s 0,0,none⟩) m m,.int .i64 0]) (fun s=>[⟨s 0,24,R.flatMap zb⟩]) (fun _=>True))):=fun k hk b ob hb=>by
  have hl:((fwL N.length O).set k b).length=N.length:=by rw[List.length_set,o5]
  have hok:∀ y∈(fwL N.length O).set k b,qe y:=fun y hy=>by
   rcases List.mem_or_eq_of_mem_set hy with h|h
   ·obtain⟨t,ht,rfl⟩:=iI h;exact hOk t ht
   ·rw[h];exact ob
  cases hB:yB p q g h (F:Int) (m:Int) N ((fwL N.length O).set k b) with
  | false =>
   refine .inl (fun pl cl=>?_);have:=(td p q g h pt c N pl cl ((fwL N.length O).set k b) F m hp hq hg hh hN hNl hok (by omega) hS (by omega) (by omega)).weak (post':=Is r7) (fun w hw=>hw) (fun v L hv=>hv.2 hB);rw[hl] at this;exact this
  | true =>
   refine .inr ⟨?_,ku p q g h F m pt c N _ hp hq hg hh hN hNl hP hS hok (by omega) (by omega) hB N.length hl⟩
   rcases Nat.lt_or_ge 1 N.length with h1|h1
   ·exfalso;rw[fA (ep:=ep) (d:=d) (fun y hy=>by obtain⟨t,ht,rfl⟩:=iI hy;exact hOe t ht) (fun y hy=>by obtain⟨t,ht,rfl⟩:=iI hy;exact hOd t ht) (hOe k hk) (hOd k hk) (by rw[o5];exact h1) (by rw[o5];exact hk) hb] at hB;cases hB
   ·omega
 have hRmany:∀ (ls:List Od) (pl:Option Addr) (cl:Nat),ls.length=N.length+1→Fn Tryz.prog 16 [stV p q g h (F:Int) (m:Int) (.slice pt N.length c),.slice pl (N.length+1) cl] (fun w=>RdF y7 (.slice pt N.length c) N w∧RdF odC (.slice pl (N.length+1) cl) ls w) (Is r7):=fun ls pl cl hl=>by
  have:=nr p q g h pt c N pl cl ls F m hp hq hg hh hN hNl (by omega) hS (.inr (by omega));rw[hl] at this;exact this
 generalize dSg p q g l N ep d x N.length=sg at *;generalize dVs p q g l N.length=Vs at *;generalize dYs p q l N N.length=Ys at *;generalize dPs p q g l N ep d x N.length=Ps at *;simp only[hYl] at hcO hcC;clear e1 eF eD hO hNS;obtain⟨k,hk⟩ : ∃ k,a%N.length=k:=⟨_,rfl⟩;have hkN:k<N.length:=by rw[← hk];exact Nat.mod_lt _ (by omega)
 have hcv:IntKind.i64.wrap (a:Int)=(a:Int):=i64_in (by omega) (by omega);have hrem:((a:Int)).tmod (N.length:Int)=(k:Int):=by rw[← hk];rfl
 refine Fn.enter Tryz.func5 rfl rfl rfl ?_;intro w hw;obtain⟨wN,wl,wX⟩:=hw
 repeat (first|refine Tw ?_|(refine Tm ?_;intro _)|exact Tz)
 refine WO.acallX (hc:=hD') (hR:=fun w1 hm=>⟨wN.mod hm.mod,wl.mod hm.mod,wX.mod hm.mod⟩) (k:=fun yy hyy=>?_);clear hyy;generalize yy 0=gV;generalize yy 1=gY;generalize yy 2=gP;clear yy;simp only[List.cons_append,List.nil_append]
 repeat (first|refine WO.does (zD rfl hcv) ?_|refine WO.does (uO rfl rfl (by omega) hrem) ?_|refine Ta ?_|(refine Tm ?_;intro _)|refine Tc ?_|exact Tz)
 rename_i gS gZ gD
 refine WC.loopI (σ:=Nat × Nat × Nat) (fun s=>s.1≤N.length∧(0<s.1→s.2.2<9223372036854775808∧s.1≤s.2.2)) (fun s=>[(3,Sx.pt gS),(4,Sx.pt gZ),(7,Sx.pt gD),(9,.int .i64 (k:Int)),(10,agV s.2.1 s.2.2 s.1 s.1),(11,.int .i64 (s.1:Int))])
  (fun s=>⟨gS,29,stC p q g h (F:Int) (m:Int) (.slice pt N.length c)⟩::⟨gZ,32,dtC ep d (.slice pz l.length cz) x (.slice px X.length cx)⟩::⟨gD,37,dlC ep d (.slice (some ⟨gV,0,none⟩) N.length N.length) (.slice (some ⟨gY,0,none⟩) N.length N.length) (.slice (some ⟨gP,0,none⟩) N.length N.length) sg.1 sg.2⟩::⟨gY,24,Ys.flatMap zb⟩::rwL 46 s.2.1 (((List.range s.1).map O).flatMap odC) (mkz (s.2.2 - s.1) (opC 0 0 0 0 0 0)) s.1) (fun s=>N.length - s.1) (0,0,0) (fun s hi=>?_) ⟨Nat.zero_le _,fun h=>absurd h (by decide)⟩
 obtain⟨i,gl,cl⟩:=s
 try dsimp only at hi ⊢
 obtain⟨hi,hr⟩:=hi
 by_cases hlt:i<N.length
 ·have hltx:i<X.length:=by omega
  obtain⟨s,hs⟩ : ∃ s,X[i]?=some s:=⟨_,List.getElem?_eq_getElem hltx⟩;have hsb:=hX s (List.mem_of_getElem? hs);have hsg:X.getD i 0=s:=by rw[List.getD_eq_getElem?_getD,hs];rfl
  have hadd2:IntKind.i64.wrap ((i:Int)+1)=((i+1:Nat):Int):=zn (by omega) (by omega) (by omega);have hcv4:IntKind.u8.wrap ((i+1:Nat):Int)=((i+1:Nat):Int):=v6 (by omega) (by omega) (by omega);have hc1:=hcO (i+1) s (by omega) hsb gY sg.1 sg.2;rw[← hsg,hOr i hlt,hsg] at hc1;obtain⟨bX,oX,rfl,_,hsX⟩:=id wX |>.get hs
  have hcy:cut (X.flatMap zb) (oX+i*4 - oX) 4=zb s:=by rw[Nat.add_sub_cancel_left];exact zN zH hs
  have hB2:((List.range i).map O).flatMap odC++odC (O i)=((List.range (i+1)).map O).flatMap odC:=by rw[uF,List.flatMap_append];simp
  have hBl:(((List.range i).map O).flatMap odC).length=i*15:=by rw[zB (k:=15) (fun _=>rfl)];simp
  generalize O i=Oi at *;clear hRall hRset hRmany
  repeat (first|refine Tw ?_|(refine Tm ?_;intro _)|exact Tz)
  refine WC.dT rfl (by omega) ?_
  repeat (first|refine Tw ?_|(refine Tm ?_;intro _)|exact Tz)
  refine WC.adrawF [13] 15 (k:=?_)
  iterate 3 (first|refine Da ?_|refine Dc ?_)
  refine DQ.does (fun s _=>zg rfl rfl hadd2) Dp.const ?_;refine DQ.does (fun s _=>zD rfl hcv4) Dp.const ?_
  iterate 3 (first|refine Da ?_|refine Dc ?_)
  refine DQ.does (fun s _=>za (o':=oX+i*4) rfl rfl hltx rfl) Dp.const ?_;refine DQ.does (fun _ _=>zk (vs:=zb s) (hs:=hsX) (hle:=Nat.le_add_right _ _) (hc:=hcy)) Dp.const ?_;refine DQ.acallM (hc:=hc1 _ _) (hR:=fun w1 hm=>⟨(wN.mod hm.mod).rdK,RdF.ownM (Hs.sg hm) hYl⟩) (k:=?_)
  repeat (first|refine Da ?_|refine Df ?_)
  refine DQ.anil (k:=?_);intro sx _
  repeat (first|refine WO.does (zu rfl rfl rfl) ?_|refine Ta ?_|(refine Tm ?_;intro _)|refine Tc ?_|exact Tz)
  rcases i with _|i
  ·have hB3:odC Oi=((List.range (0+1)).map O).flatMap odC:=by simpa using hB2
   try dsimp only[agV,rwL]
   repeat (first|refine Ta ?_|(refine Tm ?_;intro _)|(refine WO.makes (zd (cs:=odC Oi) rfl (by decide) rfl) ?_;intro _)|refine Tc ?_|exact Tz)
   refine WO.appNZ (z:=opC 0 0 0 0 0 0) (ys:=odC Oi) (m:=1) rfl rfl rfl (Rds.own (m:=15) Hs.here rfl) rfl (by decide) (by decide) (by decide) (by decide) (fun g1 c1 a2 a3=>?_);rw[hB3]
   repeat (first|refine WO.does (zg rfl rfl hadd2) ?_|refine Ta ?_|(refine Tm ?_;intro _)|refine Tc ?_|exact Tz)
   exact WX.metI (0+1,g1,c1) (hs:=⟨⟨by show 0+1≤N.length;omega,fun _=>⟨a2,a3⟩⟩,by show N.length - (0+1)<N.length - 0;omega⟩)
  ·obtain⟨r1,r2⟩:=hr (by omega)
   try dsimp only[agV,rwL]
   repeat (first|refine Ta ?_|(refine Tm ?_;intro _)|(refine WO.makes (zd (cs:=odC Oi) rfl (by decide) rfl) ?_;intro _)|refine Tc ?_|exact Tz)
   refine WO.appKZ (z:=opC 0 0 0 0 0 0) (m:=1) (l:=i+1+1) rfl rfl rfl (xs:=((List.range (i+1)).map O).flatMap odC) (ys:=odC Oi) hBl r2 Pk.a (Rds.own (m:=15) Hs.here rfl) rfl rfl rfl (by omega) r1 (by omega) (by decide) (by decide) (fun g1 c1 a2 a3=>?_);rw[hB2]
   repeat (first|refine WO.does (zg rfl rfl hadd2) ?_|refine Ta ?_|(refine Tm ?_;intro _)|refine Tc ?_|exact Tz)
   exact WX.metI (i+1+1,g1,c1) (hs:=⟨⟨by show i+1+1≤N.length;omega,fun _=>⟨a2,a3⟩⟩,by show N.length - (i+1+1)<N.length - (i+1);omega⟩)
 ·have hi3:i=N.length:=by omega
  subst hi3;rw[aw (by omega),aA (by omega)];obtain⟨R,hR⟩:=hRall;have hRs:=hRset k hkN;have hnk:=hOn k hkN;have hek:=hOe k hkN;have hdk:=hOd k hkN;have hok:=hOk k hkN;have hzk:=hOz k hkN;have hck:=hOck k hkN;have hgk:(fwL N.length O)[k]?=some (O k):=abM hkN;have hrl:=o5 N.length O;rw[show (List.range N.length).map O=fwL N.length O from rfl];clear hRset hcO hOr hOn hOe hOd hOk hOz hOck;generalize fwL N.length O=RO at *;generalize O k=o at *;have hco:∀ r,cut (RO.flatMap odC++r) (k*15) 15=odC o:=fun r=>ov (f:=odC) (k:=15) (fun _=>rfl) hgk;have hcv8:IntKind.u8.wrap (N.length:Int)=(N.length:Int):=u8_in (by omega) (by omega);have hadn:IntKind.i64.wrap ((N.length:Int)+1)=((N.length+1:Nat):Int):=zn (by omega) (by omega) (by omega);have hcvn:IntKind.u8.wrap ((N.length+1:Nat):Int)=((N.length+1:Nat):Int):=v6 (by omega) (by omega) (by omega);have hade:IntKind.u64.wrap ((o.e:Int)+1)=(((o.e+1)%18446744073709551616:Nat):Int):=by
   have:=hok.e;simp[IntKind.wrap,IntKind.signed,IntKind.bits]
  have hmd:=Nat.mod_lt o.d (show 0<N.length by omega);have hrmd:((o.d:Int)).tmod (N.length:Int)=((o.d%N.length:Nat):Int):=rfl;have hadd8:IntKind.u8.wrap (((o.d%N.length:Nat):Int)+1)=((o.d%N.length+1:Nat):Int):=v6 (by omega) (by omega) (by omega)
  repeat (first|refine Tw ?_|(refine Tm ?_;intro _)|exact Tz)
  refine WC.dF rfl (by omega) ?_
  repeat (first|refine Tw ?_|(refine Tm ?_;intro _)|exact Tz)
  refine WC.adraw 22 (k:=?_)
  iterate 2 (first|refine Da ?_|refine Dc ?_)
  refine DQ.does (fun s _=>za (o':=k*15) rfl rfl hkN (Nat.zero_add _)) Dp.const ?_;refine DQ.does (fun s _=>zq (vs:=odC o) (hc:=hco _)) Dp.const ?_
  iterate 2 (first|refine Da ?_|refine Dc ?_)
  refine DQ.does (fun s _=>za (o':=k*15) rfl rfl hkN (Nat.zero_add _)) Dp.const ?_;refine DQ.does (fun s _=>zq (vs:=odC o) (hc:=hco _)) Dp.const ?_
  iterate 2 (first|refine Da ?_|refine Dc ?_)
  refine DQ.does (fun s _=>za (o':=k*15) rfl rfl hkN (Nat.zero_add _)) Dp.const ?_;refine DQ.does (fun s _=>zq (vs:=odC o) (hc:=hco _)) Dp.const ?_
  iterate 2 (first|refine Da ?_|refine Dc ?_)
  refine DQ.does (fun s _=>za (o':=k*15) rfl rfl hkN (Nat.zero_add _)) Dp.const ?_;refine DQ.does (fun s _=>zq (vs:=odC o) (hc:=hco _)) Dp.const ?_
  iterate 2 (first|refine Da ?_|refine Dc ?_)
  refine DQ.does (fun s _=>za (o':=k*15) rfl rfl hkN (Nat.zero_add _)) Dp.const ?_;refine DQ.does (fun s _=>zq (vs:=odC o) (hc:=hco _)) Dp.const ?_;refine DQ.does (fun s _=>zJ (cs:=[o,o,o,o,o].flatMap odC) rfl rfl (by kernel_rfl)) Dp.const ?_
  iterate 1 (first|refine Da ?_|refine Dc ?_)
  refine DQ.anil (k:=?_);intro sx _
  try simp only[List.cons_append,List.nil_append]
  generalize sx 21 0=gB
  repeat (first|refine Tw ?_|(refine Tm ?_;intro _)|exact Tz)
  repeat (first|refine WO.does (zg rfl rfl hade) ?_|refine WO.stores (zw (vs:=[.int .u64 (((o.e+1)%18446744073709551616:Nat):Int)]) (cs':=[bdO N.length o 0,o,o,o,o].flatMap odC) (hc:=rfl)) ?_|refine WO.does (zD rfl hcv8) ?_|refine WO.does (uO rfl rfl (by omega) hrmd) ?_|refine WO.does (zg rfl rfl hadd8) ?_|refine WO.stores (zw (vs:=[.int .u8 ((o.d%N.length+1:Nat):Int)]) (cs':=[bdO N.length o 0,bdO N.length o 1,o,o,o].flatMap odC) (hc:=rfl)) ?_|refine WO.stores (zw (vs:=[.int .u8 0]) (cs':=[bdO N.length o 0,bdO N.length o 1,bdO N.length o 2,o,o].flatMap odC) (hc:=rfl)) ?_|refine WO.does (zg rfl rfl hadn) ?_|refine WO.does (zD rfl hcvn) ?_|refine WO.stores (zw (vs:=[.int .u8 ((N.length+1:Nat):Int)]) (cs':=[bdO N.length o 0,bdO N.length o 1,bdO N.length o 2,bdO N.length o 3,o].flatMap odC) (hc:=rfl)) ?_|refine WO.does (zJ (cs:=zb 0) rfl rfl rfl) ?_|refine WO.stores (zw (vs:=zb 0) (cs':=(bdL N.length o).flatMap odC) (hc:=rfl)) ?_|refine Ta ?_|(refine Tm ?_;intro _)|refine Tc ?_|exact Tz)
  have hROl:(RO.flatMap odC).length=N.length*15:=by rw[zB (k:=15) (fun _=>rfl),hrl]
  have hcu:∀ r,cut (RO.flatMap odC++r) 0 (N.length*15)=RO.flatMap odC:=fun r=>bd hROl
  refine WC.loopI (σ:=Nat) (fun i=>i≤5) (fun i=>[(3,Sx.pt gS),(7,Sx.pt gD),(9,.int .i64 (k:Int)),(10,.slice (some ⟨gl,0,none⟩) N.length cl),(14,Sx.pt gB),(15,.int .i64 (i:Int))])
   (fun _=>[⟨gS,29,stC p q g h (F:Int) (m:Int) (.slice pt N.length c)⟩,⟨gD,37,dlC ep d (.slice (some ⟨gV,0,none⟩) N.length N.length) (.slice (some ⟨gY,0,none⟩) N.length N.length) (.slice (some ⟨gP,0,none⟩) N.length N.length) sg.1 sg.2⟩,⟨gY,24,Ys.flatMap zb⟩,⟨gl,46,RO.flatMap odC++mkz (cl - N.length) (opC 0 0 0 0 0 0)⟩,⟨gB,58,(bdL N.length o).flatMap odC⟩]) (fun i=>5 - i) 0 (fun i hi=>?_) (Nat.zero_le _)
  try dsimp only at hi ⊢
  by_cases hlt:i<5
  ·have hadd2:IntKind.i64.wrap ((i:Int)+1)=((i+1:Nat):Int):=zn (by omega) (by omega) (by omega);have hbo:=acM (n:=N.length) (by omega) (by omega) hok i hlt;have hbc:=dh (n:=N.length) hok.e i hlt;have hcb:cut ((bdL N.length o).flatMap odC) (0+i*15) 15=odC (bdO N.length o i):=by rw[Nat.zero_add];exact zN (f:=odC) (fun _=>rfl) (aY hlt)
   generalize bdO N.length o i=b at *;have hCb:=hcC b hbo gY sg.1 sg.2;have hov:∀ r,over (RO.flatMap odC++r) (k*15) (odC b)=(RO.set k b).flatMap odC++r:=fun r=>aaG (f:=odC) (K:=15) (j:=0) (fun _=>rfl) hgk (fun r=>aV r);have hle:∀ r,Nat.ble (k*15+15) (RO.flatMap odC++r).length=true:=fun r=>by rw[Nat.ble_eq,List.length_append,hROl];omega
   have hsl:(RO.set k b).length=N.length:=by rw[List.length_set,hrl]
   repeat (first|refine Tw ?_|(refine Tm ?_;intro _)|exact Tz)
   refine WC.dT rfl (by omega) ?_
   repeat (first|refine Tw ?_|(refine Tm ?_;intro _)|exact Tz)
   rcases hbc with hbe|hbb
   ·obtain rfl:o=b:=hbe.symm;rw[hck] at hCb;rw[eH hgk] at hov hsl;refine WC.adraw 9 (k:=?_)
    iterate 1 (first|refine Da ?_|refine Dc ?_)
    refine DQ.does (fun s _=>zA (o':=0+i*15) rfl rfl hlt rfl) Dp.const ?_;refine DQ.does (fun s _=>zq (vs:=odC o) (hc:=hcb)) Dp.const ?_
    iterate 2 (first|refine Da ?_|refine Dc ?_)
    refine DQ.does (fun s _=>za (o':=k*15) rfl rfl hkN (Nat.zero_add _)) Dp.const ?_;refine DQ.does (fun s _=>zq (vs:=odC o) (hc:=hco _)) Dp.const ?_;refine DQ.does (fun s _=>jt hok rfl rfl) Dp.const ?_
    iterate 1 (first|refine Da ?_|refine Dc ?_)
    refine DQ.anil (k:=?_);intro sx _
    repeat (first|refine Tw ?_|(refine Tm ?_;intro _)|exact Tz)
    refine WC.adraw 8 (k:=?_)
    iterate 3 (first|refine Da ?_|refine Dc ?_)
    refine DQ.does (fun s _=>zA (o':=0+i*15) rfl rfl hlt rfl) Dp.const ?_;refine DQ.does (fun s _=>zq (vs:=odC o) (hc:=hcb)) Dp.const ?_;refine DQ.acallM (hc:=hCb _ _) (hR:=fun w1 hm=>⟨(wN.mod hm.mod).rdK,RdF.ownM (Hs.sg hm) hYl⟩) (k:=?_)
    iterate 1 (first|refine Da ?_|refine Dc ?_)
    refine DQ.does (fun s _=>rW rfl rfl) Dp.const ?_;refine DQ.anil (k:=?_);intro sx _
    repeat (first|refine Tw ?_|(refine Tm ?_;intro _)|exact Tz)
    refine WO.appNZ (z:=opC 0 0 0 0 0 0) (ys:=RO.flatMap odC) (m:=N.length) rfl rfl rfl (Rds.own (m:=N.length*15) Hs.a (hcu _)) hROl (by omega) (by omega) (by omega) (by decide) (fun g1 c1 a2 a3=>?_)
    repeat (first|refine WO.does (zA (o':=0+i*15) rfl rfl hlt rfl) ?_|refine WO.does (zq (vs:=odC o) (hc:=hcb)) ?_|refine WO.does (za (o':=k*15) rfl rfl hkN (Nat.zero_add _)) ?_|refine WO.stores (zw (vs:=odC o) (cs':=(RO).flatMap odC++mkz (c1 - N.length) (opC 0 0 0 0 0 0)) (hc:=hov _) (hle:=hle _)) ?_|refine Ta ?_|(refine Tm ?_;intro _)|refine Tc ?_|exact Tz)
    refine WO.acallX (hc:=hR _ _) (hR:=fun w1 hm=>⟨wN.mod hm.mod,RdF.ownO (Hs.sg hm) hsl⟩) (k:=fun yy hyy=>?_);clear hyy;generalize yy 0=gR;clear yy;simp only[List.cons_append,List.nil_append]
    by_cases h1:1<N.length
    ·have h1' : ((N.length:Nat):Int) > 1:=by omega
     repeat (first|refine WO.does (zY rfl rfl h1') ?_|refine WO.does (yQ rfl rfl rfl) ?_|refine WO.does (rW rfl rfl) ?_|refine WO.does (zg rfl rfl hadd2) ?_|refine Ta ?_|(refine Tm ?_;intro _)|refine Tc ?_|exact Tz)
     exact WX.metI (i+1) (hs:=⟨by show i+1≤5;omega,by show 5 - (i+1)<5 - i;omega⟩)
    ·have h1' : ¬ ((N.length:Nat):Int) > 1:=by omega
     repeat (first|refine WO.does (zx rfl rfl h1') ?_|refine WO.does (zg rfl rfl hadd2) ?_|refine Ta ?_|(refine Tm ?_;intro _)|refine Tc ?_|exact Tz)
     exact WX.metI (i+1) (hs:=⟨by show i+1≤5;omega,by show 5 - (i+1)<5 - i;omega⟩)
   ·have hne:=aca (N:=N) (by omega) hzk hbb;rw[ab7 (by assumption) (by assumption) hbb] at hCb
    rcases hRs b hbo hbb with hRb|⟨hN1,R2,hRb⟩
    ·skip
     refine WC.adraw 9 (k:=?_)
     iterate 1 (first|refine Da ?_|refine Dc ?_)
     refine DQ.does (fun s _=>zA (o':=0+i*15) rfl rfl hlt rfl) Dp.const ?_;refine DQ.does (fun s _=>zq (vs:=odC b) (hc:=hcb)) Dp.const ?_
     iterate 2 (first|refine Da ?_|refine Dc ?_)
     refine DQ.does (fun s _=>za (o':=k*15) rfl rfl hkN (Nat.zero_add _)) Dp.const ?_;refine DQ.does (fun s _=>zq (vs:=odC o) (hc:=hco _)) Dp.const ?_;refine DQ.does (fun s _=>rV hbo hok hne rfl rfl) Dp.const ?_
     iterate 1 (first|refine Da ?_|refine Dc ?_)
     refine DQ.anil (k:=?_);intro sx _
     repeat (first|refine Tw ?_|(refine Tm ?_;intro _)|exact Tz)
     refine WC.adraw 8 (k:=?_)
     iterate 3 (first|refine Da ?_|refine Dc ?_)
     refine DQ.does (fun s _=>zA (o':=0+i*15) rfl rfl hlt rfl) Dp.const ?_;refine DQ.does (fun s _=>zq (vs:=odC b) (hc:=hcb)) Dp.const ?_;refine DQ.acallM (hc:=hCb _ _) (hR:=fun w1 hm=>⟨(wN.mod hm.mod).rdK,RdF.ownM (Hs.sg hm) hYl⟩) (k:=?_)
     iterate 1 (first|refine Da ?_|refine Dc ?_)
     refine DQ.does (fun s _=>rW rfl rfl) Dp.const ?_;refine DQ.anil (k:=?_);intro sx _
     repeat (first|refine Tw ?_|(refine Tm ?_;intro _)|exact Tz)
     refine WO.appNZ (z:=opC 0 0 0 0 0 0) (ys:=RO.flatMap odC) (m:=N.length) rfl rfl rfl (Rds.own (m:=N.length*15) Hs.a (hcu _)) hROl (by omega) (by omega) (by omega) (by decide) (fun g1 c1 a2 a3=>?_)
     repeat (first|refine WO.does (zA (o':=0+i*15) rfl rfl hlt rfl) ?_|refine WO.does (zq (vs:=odC b) (hc:=hcb)) ?_|refine WO.does (za (o':=k*15) rfl rfl hkN (Nat.zero_add _)) ?_|refine WO.stores (zw (vs:=odC b) (cs':=(RO.set k b).flatMap odC++mkz (c1 - N.length) (opC 0 0 0 0 0 0)) (hc:=hov _) (hle:=hle _)) ?_|refine Ta ?_|(refine Tm ?_;intro _)|refine Tc ?_|exact Tz)
     refine WO.acallR (hc:=hRb _ _) (hR:=fun w1 hm=>⟨wN.mod hm.mod,RdF.ownO (Hs.sg hm) hsl⟩) (k:=?_)
     by_cases h1:1<N.length
     ·have h1' : ((N.length:Nat):Int) > 1:=by omega
      repeat (first|refine WO.does (zY rfl rfl h1') ?_|refine WO.does (vk rfl rfl (by decide)) ?_|refine WO.does (rW rfl rfl) ?_|refine WO.does (zg rfl rfl hadd2) ?_|refine Ta ?_|(refine Tm ?_;intro _)|refine Tc ?_|exact Tz)
      exact WX.metI (i+1) (hs:=⟨by show i+1≤5;omega,by show 5 - (i+1)<5 - i;omega⟩)
     ·have h1' : ¬ ((N.length:Nat):Int) > 1:=by omega
      repeat (first|refine WO.does (zx rfl rfl h1') ?_|refine WO.does (zg rfl rfl hadd2) ?_|refine Ta ?_|(refine Tm ?_;intro _)|refine Tc ?_|exact Tz)
      exact WX.metI (i+1) (hs:=⟨by show i+1≤5;omega,by show 5 - (i+1)<5 - i;omega⟩)
    ·skip
     refine WC.adraw 9 (k:=?_)
     iterate 1 (first|refine Da ?_|refine Dc ?_)
     refine DQ.does (fun s _=>zA (o':=0+i*15) rfl rfl hlt rfl) Dp.const ?_;refine DQ.does (fun s _=>zq (vs:=odC b) (hc:=hcb)) Dp.const ?_
     iterate 2 (first|refine Da ?_|refine Dc ?_)
     refine DQ.does (fun s _=>za (o':=k*15) rfl rfl hkN (Nat.zero_add _)) Dp.const ?_;refine DQ.does (fun s _=>zq (vs:=odC o) (hc:=hco _)) Dp.const ?_;refine DQ.does (fun s _=>rV hbo hok hne rfl rfl) Dp.const ?_
     iterate 1 (first|refine Da ?_|refine Dc ?_)
     refine DQ.anil (k:=?_);intro sx _
     repeat (first|refine Tw ?_|(refine Tm ?_;intro _)|exact Tz)
     refine WC.adraw 8 (k:=?_)
     iterate 3 (first|refine Da ?_|refine Dc ?_)
     refine DQ.does (fun s _=>zA (o':=0+i*15) rfl rfl hlt rfl) Dp.const ?_;refine DQ.does (fun s _=>zq (vs:=odC b) (hc:=hcb)) Dp.const ?_;refine DQ.acallM (hc:=hCb _ _) (hR:=fun w1 hm=>⟨(wN.mod hm.mod).rdK,RdF.ownM (Hs.sg hm) hYl⟩) (k:=?_)
     iterate 1 (first|refine Da ?_|refine Dc ?_)
     refine DQ.does (fun s _=>rW rfl rfl) Dp.const ?_;refine DQ.anil (k:=?_);intro sx _
     repeat (first|refine Tw ?_|(refine Tm ?_;intro _)|exact Tz)
     refine WO.appNZ (z:=opC 0 0 0 0 0 0) (ys:=RO.flatMap odC) (m:=N.length) rfl rfl rfl (Rds.own (m:=N.length*15) Hs.a (hcu _)) hROl (by omega) (by omega) (by omega) (by decide) (fun g1 c1 a2 a3=>?_)
     repeat (first|refine WO.does (zA (o':=0+i*15) rfl rfl hlt rfl) ?_|refine WO.does (zq (vs:=odC b) (hc:=hcb)) ?_|refine WO.does (za (o':=k*15) rfl rfl hkN (Nat.zero_add _)) ?_|refine WO.stores (zw (vs:=odC b) (cs':=(RO.set k b).flatMap odC++mkz (c1 - N.length) (opC 0 0 0 0 0 0)) (hc:=hov _) (hle:=hle _)) ?_|refine Ta ?_|(refine Tm ?_;intro _)|refine Tc ?_|exact Tz)
     refine WO.acallX (hc:=hRb _ _) (hR:=fun w1 hm=>⟨wN.mod hm.mod,RdF.ownO (Hs.sg hm) hsl⟩) (k:=fun yy hyy=>?_);clear hyy;generalize yy 0=gR;clear yy;simp only[List.cons_append,List.nil_append];have h1' : ¬ ((N.length:Nat):Int) > 1:=by omega
     repeat (first|refine WO.does (zx rfl rfl h1') ?_|refine WO.does (zg rfl rfl hadd2) ?_|refine Ta ?_|(refine Tm ?_;intro _)|refine Tc ?_|exact Tz)
     exact WX.metI (i+1) (hs:=⟨by show i+1≤5;omega,by show 5 - (i+1)<5 - i;omega⟩)
  ·have hi5:i=5:=by omega
   have hB9:RO.flatMap odC++odC o=(RO++[o]).flatMap odC:=by rw[List.flatMap_append];simp
   have hsl9:(RO++[o]).length=N.length+1:=by rw[List.length_append,hrl];rfl
   have hAl:=hA;have hRm:=fun g c=>hRmany (RO++[o]) (some ⟨g,0,none⟩) c hsl9
   repeat (first|refine Tw ?_|(refine Tm ?_;intro _)|exact Tz)
   refine WC.dF rfl (by omega) ?_
   repeat (first|refine Tw ?_|(refine Tm ?_;intro _)|exact Tz)
   refine WC.allA (fun A hA=>?_)
   suffices hS32767:∀ q2 q7 q8 z2 z8,(z2<9223372036854775808∧N.length≤z2)→A [(158,stV p q g h (F:Int) (m:Int) (.slice pt N.length c)),(159,.slice (some ⟨gl,0,none⟩) N.length cl),(160,.slice (some ⟨q2,0,none⟩) N.length z2),(161,.slice (some ⟨gl,0,none⟩) N.length cl),(162,.int .i64 (k:Int)),(163,.pointer (some ⟨gl,k*15,none⟩)),(164,.agg (odC o).toArray),(165,.slice (some ⟨q7,0,none⟩) 1 1),(166,.slice (some ⟨q8,0,none⟩) (N.length+1) z8),(167,r7),(157,r7),(168,.slice none 0 0),(169,.int .i64 1),(20,.slice none 0 0),(21,.int .i64 1),(3,Sx.pt gS),(9,.int .i64 (k:Int)),(10,.slice (some ⟨gl,0,none⟩) N.length cl)] [⟨q7,46,odC o⟩,⟨q8,46,(RO++[o]).flatMap odC++mkz (z8 - (N.length+1)) (opC 0 0 0 0 0 0)⟩,⟨gS,29,stC p q g h (F:Int) (m:Int) (.slice pt N.length c)⟩,⟨gl,46,RO.flatMap odC++mkz (cl - N.length) (opC 0 0 0 0 0 0)⟩] (bt 15 32767) 0 by
    have hS16383:∀ q2 q7 q8 z2 z8,(z2<9223372036854775808∧N.length≤z2)→A [(158,stV p q g h (F:Int) (m:Int) (.slice pt N.length c)),(159,.slice (some ⟨gl,0,none⟩) N.length cl),(160,.slice (some ⟨q2,0,none⟩) N.length z2),(161,.slice (some ⟨gl,0,none⟩) N.length cl),(162,.int .i64 (k:Int)),(163,.pointer (some ⟨gl,k*15,none⟩)),(164,.agg (odC o).toArray),(165,.slice (some ⟨q7,0,none⟩) 1 1),(166,.slice (some ⟨q8,0,none⟩) (N.length+1) z8),(167,r7),(157,r7),(168,.slice none 0 0),(169,.int .i64 1),(20,.slice none 0 0),(3,Sx.pt gS),(9,.int .i64 (k:Int)),(10,.slice (some ⟨gl,0,none⟩) N.length cl)] [⟨q7,46,odC o⟩,⟨q8,46,(RO++[o]).flatMap odC++mkz (z8 - (N.length+1)) (opC 0 0 0 0 0 0)⟩,⟨gS,29,stC p q g h (F:Int) (m:Int) (.slice pt N.length c)⟩,⟨gl,46,RO.flatMap odC++mkz (cl - N.length) (opC 0 0 0 0 0 0)⟩] (bt 15 16383) 1:=by
     intro q2 q7 q8 z2 z8 hz2;refine (hA _ _ _ _).2 (WA.step [14] (.cons ?_ .nil))
     ·refine Tw ?_;exact WA.go hA (hS32767 q2 q7 q8 z2 z8 hz2)
    have hS8191:∀ q2 q7 q8 z2 z8,(z2<9223372036854775808∧N.length≤z2)→A [(158,stV p q g h (F:Int) (m:Int) (.slice pt N.length c)),(159,.slice (some ⟨gl,0,none⟩) N.length cl),(160,.slice (some ⟨q2,0,none⟩) N.length z2),(161,.slice (some ⟨gl,0,none⟩) N.length cl),(162,.int .i64 (k:Int)),(163,.pointer (some ⟨gl,k*15,none⟩)),(164,.agg (odC o).toArray),(165,.slice (some ⟨q7,0,none⟩) 1 1),(166,.slice (some ⟨q8,0,none⟩) (N.length+1) z8),(167,r7),(157,r7),(168,.slice none 0 0),(169,.int .i64 1),(3,Sx.pt gS),(9,.int .i64 (k:Int)),(10,.slice (some ⟨gl,0,none⟩) N.length cl)] [⟨q7,46,odC o⟩,⟨q8,46,(RO++[o]).flatMap odC++mkz (z8 - (N.length+1)) (opC 0 0 0 0 0 0)⟩,⟨gS,29,stC p q g h (F:Int) (m:Int) (.slice pt N.length c)⟩,⟨gl,46,RO.flatMap odC++mkz (cl - N.length) (opC 0 0 0 0 0 0)⟩] (bt 15 8191) 2:=by
     intro q2 q7 q8 z2 z8 hz2;refine (hA _ _ _ _).2 (WA.step [13] (.cons ?_ .nil))
     ·refine Tw ?_;exact WA.go hA (hS16383 q2 q7 q8 z2 z8 hz2)
    have hS12287:∀ q2 q7 q8 z2 z8,(z2<9223372036854775808∧N.length≤z2)→A [(158,stV p q g h (F:Int) (m:Int) (.slice pt N.length c)),(159,.slice (some ⟨gl,0,none⟩) N.length cl),(160,.slice (some ⟨q2,0,none⟩) N.length z2),(161,.slice (some ⟨gl,0,none⟩) N.length cl),(162,.int .i64 (k:Int)),(163,.pointer (some ⟨gl,k*15,none⟩)),(164,.agg (odC o).toArray),(165,.slice (some ⟨q7,0,none⟩) 1 1),(166,.slice (some ⟨q8,0,none⟩) (N.length+1) z8),(167,r7),(157,r7),(168,.slice none 0 0),(20,.slice none 0 0),(3,Sx.pt gS),(9,.int .i64 (k:Int)),(10,.slice (some ⟨gl,0,none⟩) N.length cl)] [⟨q7,46,odC o⟩,⟨q8,46,(RO++[o]).flatMap odC++mkz (z8 - (N.length+1)) (opC 0 0 0 0 0 0)⟩,⟨gS,29,stC p q g h (F:Int) (m:Int) (.slice pt N.length c)⟩,⟨gl,46,RO.flatMap odC++mkz (cl - N.length) (opC 0 0 0 0 0 0)⟩] (bt 15 12287) 2:=by
     intro q2 q7 q8 z2 z8 hz2;refine (hA _ _ _ _).2 (WA.step [12] (.cons ?_ .nil))
     ·refine Tw ?_;exact WA.go hA (hS16383 q2 q7 q8 z2 z8 hz2)
    have hS4095:∀ q2 q7 q8 z2 z8,(z2<9223372036854775808∧N.length≤z2)→A [(158,stV p q g h (F:Int) (m:Int) (.slice pt N.length c)),(159,.slice (some ⟨gl,0,none⟩) N.length cl),(160,.slice (some ⟨q2,0,none⟩) N.length z2),(161,.slice (some ⟨gl,0,none⟩) N.length cl),(162,.int .i64 (k:Int)),(163,.pointer (some ⟨gl,k*15,none⟩)),(164,.agg (odC o).toArray),(165,.slice (some ⟨q7,0,none⟩) 1 1),(166,.slice (some ⟨q8,0,none⟩) (N.length+1) z8),(167,r7),(157,r7),(168,.slice none 0 0),(3,Sx.pt gS),(9,.int .i64 (k:Int)),(10,.slice (some ⟨gl,0,none⟩) N.length cl)] [⟨q7,46,odC o⟩,⟨q8,46,(RO++[o]).flatMap odC++mkz (z8 - (N.length+1)) (opC 0 0 0 0 0 0)⟩,⟨gS,29,stC p q g h (F:Int) (m:Int) (.slice pt N.length c)⟩,⟨gl,46,RO.flatMap odC++mkz (cl - N.length) (opC 0 0 0 0 0 0)⟩] (bt 15 4095) 3:=by
     intro q2 q7 q8 z2 z8 hz2;refine (hA _ _ _ _).2 (WA.step [12,13] (.cons ?_ (.cons ?_ .nil)))
     ·refine Tw ?_;exact WA.go hA (hS8191 q2 q7 q8 z2 z8 hz2)
     ·refine Tw ?_;exact WA.go hA (hS12287 q2 q7 q8 z2 z8 hz2)
    have hS6143:∀ q2 q7 q8 z2 z8,(z2<9223372036854775808∧N.length≤z2)→A [(158,stV p q g h (F:Int) (m:Int) (.slice pt N.length c)),(159,.slice (some ⟨gl,0,none⟩) N.length cl),(160,.slice (some ⟨q2,0,none⟩) N.length z2),(161,.slice (some ⟨gl,0,none⟩) N.length cl),(162,.int .i64 (k:Int)),(163,.pointer (some ⟨gl,k*15,none⟩)),(164,.agg (odC o).toArray),(165,.slice (some ⟨q7,0,none⟩) 1 1),(166,.slice (some ⟨q8,0,none⟩) (N.length+1) z8),(167,r7),(157,r7),(169,.int .i64 1),(3,Sx.pt gS),(9,.int .i64 (k:Int)),(10,.slice (some ⟨gl,0,none⟩) N.length cl)] [⟨q7,46,odC o⟩,⟨q8,46,(RO++[o]).flatMap odC++mkz (z8 - (N.length+1)) (opC 0 0 0 0 0 0)⟩,⟨gS,29,stC p q g h (F:Int) (m:Int) (.slice pt N.length c)⟩,⟨gl,46,RO.flatMap odC++mkz (cl - N.length) (opC 0 0 0 0 0 0)⟩] (bt 15 6143) 3:=by
     intro q2 q7 q8 z2 z8 hz2;refine (hA _ _ _ _).2 (WA.step [11] (.cons ?_ .nil))
     ·refine Tw ?_;exact WA.go hA (hS8191 q2 q7 q8 z2 z8 hz2)
    have hS2047:∀ q2 q7 q8 z2 z8,(z2<9223372036854775808∧N.length≤z2)→A [(158,stV p q g h (F:Int) (m:Int) (.slice pt N.length c)),(159,.slice (some ⟨gl,0,none⟩) N.length cl),(160,.slice (some ⟨q2,0,none⟩) N.length z2),(161,.slice (some ⟨gl,0,none⟩) N.length cl),(162,.int .i64 (k:Int)),(163,.pointer (some ⟨gl,k*15,none⟩)),(164,.agg (odC o).toArray),(165,.slice (some ⟨q7,0,none⟩) 1 1),(166,.slice (some ⟨q8,0,none⟩) (N.length+1) z8),(167,r7),(157,r7),(3,Sx.pt gS),(9,.int .i64 (k:Int)),(10,.slice (some ⟨gl,0,none⟩) N.length cl)] [⟨q7,46,odC o⟩,⟨q8,46,(RO++[o]).flatMap odC++mkz (z8 - (N.length+1)) (opC 0 0 0 0 0 0)⟩,⟨gS,29,stC p q g h (F:Int) (m:Int) (.slice pt N.length c)⟩,⟨gl,46,RO.flatMap odC++mkz (cl - N.length) (opC 0 0 0 0 0 0)⟩] (bt 15 2047) 4:=by
     intro q2 q7 q8 z2 z8 hz2;refine (hA _ _ _ _).2 (WA.step [11,12] (.cons ?_ (.cons ?_ .nil)))
     ·refine Tw ?_;exact WA.go hA (hS4095 q2 q7 q8 z2 z8 hz2)
     ·refine Tw ?_;exact WA.go hA (hS6143 q2 q7 q8 z2 z8 hz2)
    have hS1023:∀ q2 q7 q8 z2 z8,(z2<9223372036854775808∧N.length≤z2)→A [(158,stV p q g h (F:Int) (m:Int) (.slice pt N.length c)),(159,.slice (some ⟨gl,0,none⟩) N.length cl),(160,.slice (some ⟨q2,0,none⟩) N.length z2),(161,.slice (some ⟨gl,0,none⟩) N.length cl),(162,.int .i64 (k:Int)),(163,.pointer (some ⟨gl,k*15,none⟩)),(164,.agg (odC o).toArray),(165,.slice (some ⟨q7,0,none⟩) 1 1),(166,.slice (some ⟨q8,0,none⟩) (N.length+1) z8),(167,r7),(3,Sx.pt gS),(9,.int .i64 (k:Int)),(10,.slice (some ⟨gl,0,none⟩) N.length cl)] [⟨q7,46,odC o⟩,⟨q8,46,(RO++[o]).flatMap odC++mkz (z8 - (N.length+1)) (opC 0 0 0 0 0 0)⟩,⟨gS,29,stC p q g h (F:Int) (m:Int) (.slice pt N.length c)⟩,⟨gl,46,RO.flatMap odC++mkz (cl - N.length) (opC 0 0 0 0 0 0)⟩] (bt 15 1023) 5:=by
     intro q2 q7 q8 z2 z8 hz2;refine (hA _ _ _ _).2 (WA.step [10] (.cons ?_ .nil))
     ·refine Tw ?_;exact WA.go hA (hS2047 q2 q7 q8 z2 z8 hz2)
    have hS511:∀ q2 q7 q8 z2 z8,(z2<9223372036854775808∧N.length≤z2)→A [(158,stV p q g h (F:Int) (m:Int) (.slice pt N.length c)),(159,.slice (some ⟨gl,0,none⟩) N.length cl),(160,.slice (some ⟨q2,0,none⟩) N.length z2),(161,.slice (some ⟨gl,0,none⟩) N.length cl),(162,.int .i64 (k:Int)),(163,.pointer (some ⟨gl,k*15,none⟩)),(164,.agg (odC o).toArray),(165,.slice (some ⟨q7,0,none⟩) 1 1),(166,.slice (some ⟨q8,0,none⟩) (N.length+1) z8),(3,Sx.pt gS),(9,.int .i64 (k:Int)),(10,.slice (some ⟨gl,0,none⟩) N.length cl)] [⟨q7,46,odC o⟩,⟨q8,46,(RO++[o]).flatMap odC++mkz (z8 - (N.length+1)) (opC 0 0 0 0 0 0)⟩,⟨gS,29,stC p q g h (F:Int) (m:Int) (.slice pt N.length c)⟩,⟨gl,46,RO.flatMap odC++mkz (cl - N.length) (opC 0 0 0 0 0 0)⟩] (bt 15 511) 6:=by
     intro q2 q7 q8 z2 z8 hz2;refine (hA _ _ _ _).2 (WA.step [9] (.cons ?_ .nil))
     ·refine WO.acallR (hc:=hRm q8 z8) (hR:=fun w1 hm=>⟨wN.mod hm.mod,RdF.ownO (Hs.sg hm) hsl9⟩) (k:=?_);exact WA.go hA (hS1023 q2 q7 q8 z2 z8 hz2)
    have hS255:∀ q2 q7 z2,(z2<9223372036854775808∧N.length≤z2)→A [(158,stV p q g h (F:Int) (m:Int) (.slice pt N.length c)),(159,.slice (some ⟨gl,0,none⟩) N.length cl),(160,.slice (some ⟨q2,0,none⟩) N.length z2),(161,.slice (some ⟨gl,0,none⟩) N.length cl),(162,.int .i64 (k:Int)),(163,.pointer (some ⟨gl,k*15,none⟩)),(164,.agg (odC o).toArray),(165,.slice (some ⟨q7,0,none⟩) 1 1),(3,Sx.pt gS),(9,.int .i64 (k:Int)),(10,.slice (some ⟨gl,0,none⟩) N.length cl)] [⟨q2,46,RO.flatMap odC++mkz (z2 - N.length) (opC 0 0 0 0 0 0)⟩,⟨q7,46,odC o⟩,⟨gS,29,stC p q g h (F:Int) (m:Int) (.slice pt N.length c)⟩,⟨gl,46,RO.flatMap odC++mkz (cl - N.length) (opC 0 0 0 0 0 0)⟩] (bt 15 255) 7:=by
     intro q2 q7 z2 hz2;refine (hA _ _ _ _).2 (WA.step [8] (.cons ?_ .nil))
     ·(refine WO.appKZ (z:=opC 0 0 0 0 0 0) (m:=1) (l:=N.length+1) rfl rfl rfl (xs:=RO.flatMap odC) (ys:=odC o) hROl hz2.2 Pk.a (Rds.own (m:=15) Hs.a rfl) rfl rfl rfl (by omega) hz2.1 (by omega) (by decide) (by decide) (fun q8 z8 _ _=>?_);rw[hB9]);exact WA.go hA (hS511 q2 q7 q8 z2 z8 hz2)
    have hS510:∀ q2 q7 q8 z2 z8,(z2<9223372036854775808∧N.length≤z2)→A [(159,.slice (some ⟨gl,0,none⟩) N.length cl),(160,.slice (some ⟨q2,0,none⟩) N.length z2),(161,.slice (some ⟨gl,0,none⟩) N.length cl),(162,.int .i64 (k:Int)),(163,.pointer (some ⟨gl,k*15,none⟩)),(164,.agg (odC o).toArray),(165,.slice (some ⟨q7,0,none⟩) 1 1),(166,.slice (some ⟨q8,0,none⟩) (N.length+1) z8),(3,Sx.pt gS),(9,.int .i64 (k:Int)),(10,.slice (some ⟨gl,0,none⟩) N.length cl)] [⟨q7,46,odC o⟩,⟨q8,46,(RO++[o]).flatMap odC++mkz (z8 - (N.length+1)) (opC 0 0 0 0 0 0)⟩,⟨gS,29,stC p q g h (F:Int) (m:Int) (.slice pt N.length c)⟩,⟨gl,46,RO.flatMap odC++mkz (cl - N.length) (opC 0 0 0 0 0 0)⟩] (bt 15 510) 7:=by
     intro q2 q7 q8 z2 z8 hz2;refine (hA _ _ _ _).2 (WA.step [0] (.cons ?_ .nil))
     ·refine Tw ?_;exact WA.go hA (hS511 q2 q7 q8 z2 z8 hz2)
    have hS127:∀ q2 z2,(z2<9223372036854775808∧N.length≤z2)→A [(158,stV p q g h (F:Int) (m:Int) (.slice pt N.length c)),(159,.slice (some ⟨gl,0,none⟩) N.length cl),(160,.slice (some ⟨q2,0,none⟩) N.length z2),(161,.slice (some ⟨gl,0,none⟩) N.length cl),(162,.int .i64 (k:Int)),(163,.pointer (some ⟨gl,k*15,none⟩)),(164,.agg (odC o).toArray),(3,Sx.pt gS),(9,.int .i64 (k:Int)),(10,.slice (some ⟨gl,0,none⟩) N.length cl)] [⟨q2,46,RO.flatMap odC++mkz (z2 - N.length) (opC 0 0 0 0 0 0)⟩,⟨gS,29,stC p q g h (F:Int) (m:Int) (.slice pt N.length c)⟩,⟨gl,46,RO.flatMap odC++mkz (cl - N.length) (opC 0 0 0 0 0 0)⟩] (bt 15 127) 8:=by
     intro q2 z2 hz2;refine (hA _ _ _ _).2 (WA.step [7] (.cons ?_ .nil))
     ·(refine WO.makes (zd (cs:=odC o) rfl (by decide) rfl) ?_;intro q7);exact WA.go hA (hS255 q2 q7 z2 hz2)
    have hS251:∀ q7,A [(158,stV p q g h (F:Int) (m:Int) (.slice pt N.length c)),(159,.slice (some ⟨gl,0,none⟩) N.length cl),(161,.slice (some ⟨gl,0,none⟩) N.length cl),(162,.int .i64 (k:Int)),(163,.pointer (some ⟨gl,k*15,none⟩)),(164,.agg (odC o).toArray),(165,.slice (some ⟨q7,0,none⟩) 1 1),(3,Sx.pt gS),(9,.int .i64 (k:Int)),(10,.slice (some ⟨gl,0,none⟩) N.length cl)] [⟨q7,46,odC o⟩,⟨gS,29,stC p q g h (F:Int) (m:Int) (.slice pt N.length c)⟩,⟨gl,46,RO.flatMap odC++mkz (cl - N.length) (opC 0 0 0 0 0 0)⟩] (bt 15 251) 8:=by
     intro q7;refine (hA _ _ _ _).2 (WA.step [2] (.cons ?_ .nil))
     ·(refine WO.appNZ (z:=opC 0 0 0 0 0 0) (ys:=RO.flatMap odC) (m:=N.length) rfl rfl rfl (Rds.own (m:=N.length*15) Hs.a (hcu _)) hROl (by omega) (by omega) (by omega) (by decide) (fun q2 z2 a2 a3=>?_);have hz2:=And.intro a2 a3);exact WA.go hA (hS255 q2 q7 z2 hz2)
    have hS254:∀ q2 q7 z2,(z2<9223372036854775808∧N.length≤z2)→A [(159,.slice (some ⟨gl,0,none⟩) N.length cl),(160,.slice (some ⟨q2,0,none⟩) N.length z2),(161,.slice (some ⟨gl,0,none⟩) N.length cl),(162,.int .i64 (k:Int)),(163,.pointer (some ⟨gl,k*15,none⟩)),(164,.agg (odC o).toArray),(165,.slice (some ⟨q7,0,none⟩) 1 1),(3,Sx.pt gS),(9,.int .i64 (k:Int)),(10,.slice (some ⟨gl,0,none⟩) N.length cl)] [⟨q2,46,RO.flatMap odC++mkz (z2 - N.length) (opC 0 0 0 0 0 0)⟩,⟨q7,46,odC o⟩,⟨gS,29,stC p q g h (F:Int) (m:Int) (.slice pt N.length c)⟩,⟨gl,46,RO.flatMap odC++mkz (cl - N.length) (opC 0 0 0 0 0 0)⟩] (bt 15 254) 8:=by
     intro q2 q7 z2 hz2;refine (hA _ _ _ _).2 (WA.step [0,8] (.cons ?_ (.cons ?_ .nil)))
     ·refine Tw ?_;exact WA.go hA (hS255 q2 q7 z2 hz2)
     ·(refine WO.appKZ (z:=opC 0 0 0 0 0 0) (m:=1) (l:=N.length+1) rfl rfl rfl (xs:=RO.flatMap odC) (ys:=odC o) hROl hz2.2 Pk.a (Rds.own (m:=15) Hs.a rfl) rfl rfl rfl (by omega) hz2.1 (by omega) (by decide) (by decide) (fun q8 z8 _ _=>?_);rw[hB9]);exact WA.go hA (hS510 q2 q7 q8 z2 z8 hz2)
    have hS63:∀ q2 z2,(z2<9223372036854775808∧N.length≤z2)→A [(158,stV p q g h (F:Int) (m:Int) (.slice pt N.length c)),(159,.slice (some ⟨gl,0,none⟩) N.length cl),(160,.slice (some ⟨q2,0,none⟩) N.length z2),(161,.slice (some ⟨gl,0,none⟩) N.length cl),(162,.int .i64 (k:Int)),(163,.pointer (some ⟨gl,k*15,none⟩)),(3,Sx.pt gS),(9,.int .i64 (k:Int)),(10,.slice (some ⟨gl,0,none⟩) N.length cl)] [⟨q2,46,RO.flatMap odC++mkz (z2 - N.length) (opC 0 0 0 0 0 0)⟩,⟨gS,29,stC p q g h (F:Int) (m:Int) (.slice pt N.length c)⟩,⟨gl,46,RO.flatMap odC++mkz (cl - N.length) (opC 0 0 0 0 0 0)⟩] (bt 15 63) 9:=by
     intro q2 z2 hz2;refine (hA _ _ _ _).2 (WA.step [6] (.cons ?_ .nil))
     ·refine WO.does (zq (vs:=odC o) (hc:=hco _)) ?_;exact WA.go hA (hS127 q2 z2 hz2)
    have hS123:A [(158,stV p q g h (F:Int) (m:Int) (.slice pt N.length c)),(159,.slice (some ⟨gl,0,none⟩) N.length cl),(161,.slice (some ⟨gl,0,none⟩) N.length cl),(162,.int .i64 (k:Int)),(163,.pointer (some ⟨gl,k*15,none⟩)),(164,.agg (odC o).toArray),(3,Sx.pt gS),(9,.int .i64 (k:Int)),(10,.slice (some ⟨gl,0,none⟩) N.length cl)] [⟨gS,29,stC p q g h (F:Int) (m:Int) (.slice pt N.length c)⟩,⟨gl,46,RO.flatMap odC++mkz (cl - N.length) (opC 0 0 0 0 0 0)⟩] (bt 15 123) 9:=by
     refine (hA _ _ _ _).2 (WA.step [2,7] (.cons ?_ (.cons ?_ .nil)))
     ·(refine WO.appNZ (z:=opC 0 0 0 0 0 0) (ys:=RO.flatMap odC) (m:=N.length) rfl rfl rfl (Rds.own (m:=N.length*15) Hs.a (hcu _)) hROl (by omega) (by omega) (by omega) (by decide) (fun q2 z2 a2 a3=>?_);have hz2:=And.intro a2 a3);exact WA.go hA (hS127 q2 z2 hz2)
     ·(refine WO.makes (zd (cs:=odC o) rfl (by decide) rfl) ?_;intro q7);exact WA.go hA (hS251 q7)
    have hS249:∀ q7,A [(158,stV p q g h (F:Int) (m:Int) (.slice pt N.length c)),(161,.slice (some ⟨gl,0,none⟩) N.length cl),(162,.int .i64 (k:Int)),(163,.pointer (some ⟨gl,k*15,none⟩)),(164,.agg (odC o).toArray),(165,.slice (some ⟨q7,0,none⟩) 1 1),(3,Sx.pt gS),(9,.int .i64 (k:Int)),(10,.slice (some ⟨gl,0,none⟩) N.length cl)] [⟨q7,46,odC o⟩,⟨gS,29,stC p q g h (F:Int) (m:Int) (.slice pt N.length c)⟩,⟨gl,46,RO.flatMap odC++mkz (cl - N.length) (opC 0 0 0 0 0 0)⟩] (bt 15 249) 9:=by
     intro q7;refine (hA _ _ _ _).2 (WA.step [1] (.cons ?_ .nil))
     ·refine Tw ?_;exact WA.go hA (hS251 q7)
    have hS126:∀ q2 z2,(z2<9223372036854775808∧N.length≤z2)→A [(159,.slice (some ⟨gl,0,none⟩) N.length cl),(160,.slice (some ⟨q2,0,none⟩) N.length z2),(161,.slice (some ⟨gl,0,none⟩) N.length cl),(162,.int .i64 (k:Int)),(163,.pointer (some ⟨gl,k*15,none⟩)),(164,.agg (odC o).toArray),(3,Sx.pt gS),(9,.int .i64 (k:Int)),(10,.slice (some ⟨gl,0,none⟩) N.length cl)] [⟨q2,46,RO.flatMap odC++mkz (z2 - N.length) (opC 0 0 0 0 0 0)⟩,⟨gS,29,stC p q g h (F:Int) (m:Int) (.slice pt N.length c)⟩,⟨gl,46,RO.flatMap odC++mkz (cl - N.length) (opC 0 0 0 0 0 0)⟩] (bt 15 126) 9:=by
     intro q2 z2 hz2;refine (hA _ _ _ _).2 (WA.step [0,7] (.cons ?_ (.cons ?_ .nil)))
     ·refine Tw ?_;exact WA.go hA (hS127 q2 z2 hz2)
     ·(refine WO.makes (zd (cs:=odC o) rfl (by decide) rfl) ?_;intro q7);exact WA.go hA (hS254 q2 q7 z2 hz2)
    have hS250:∀ q7,A [(159,.slice (some ⟨gl,0,none⟩) N.length cl),(161,.slice (some ⟨gl,0,none⟩) N.length cl),(162,.int .i64 (k:Int)),(163,.pointer (some ⟨gl,k*15,none⟩)),(164,.agg (odC o).toArray),(165,.slice (some ⟨q7,0,none⟩) 1 1),(3,Sx.pt gS),(9,.int .i64 (k:Int)),(10,.slice (some ⟨gl,0,none⟩) N.length cl)] [⟨q7,46,odC o⟩,⟨gS,29,stC p q g h (F:Int) (m:Int) (.slice pt N.length c)⟩,⟨gl,46,RO.flatMap odC++mkz (cl - N.length) (opC 0 0 0 0 0 0)⟩] (bt 15 250) 9:=by
     intro q7;refine (hA _ _ _ _).2 (WA.step [0,2] (.cons ?_ (.cons ?_ .nil)))
     ·refine Tw ?_;exact WA.go hA (hS251 q7)
     ·(refine WO.appNZ (z:=opC 0 0 0 0 0 0) (ys:=RO.flatMap odC) (m:=N.length) rfl rfl rfl (Rds.own (m:=N.length*15) Hs.a (hcu _)) hROl (by omega) (by omega) (by omega) (by decide) (fun q2 z2 a2 a3=>?_);have hz2:=And.intro a2 a3);exact WA.go hA (hS254 q2 q7 z2 hz2)
    have hS31:∀ q2 z2,(z2<9223372036854775808∧N.length≤z2)→A [(158,stV p q g h (F:Int) (m:Int) (.slice pt N.length c)),(159,.slice (some ⟨gl,0,none⟩) N.length cl),(160,.slice (some ⟨q2,0,none⟩) N.length z2),(161,.slice (some ⟨gl,0,none⟩) N.length cl),(162,.int .i64 (k:Int)),(3,Sx.pt gS),(9,.int .i64 (k:Int)),(10,.slice (some ⟨gl,0,none⟩) N.length cl)] [⟨q2,46,RO.flatMap odC++mkz (z2 - N.length) (opC 0 0 0 0 0 0)⟩,⟨gS,29,stC p q g h (F:Int) (m:Int) (.slice pt N.length c)⟩,⟨gl,46,RO.flatMap odC++mkz (cl - N.length) (opC 0 0 0 0 0 0)⟩] (bt 15 31) 10:=by
     intro q2 z2 hz2;refine (hA _ _ _ _).2 (WA.step [5] (.cons ?_ .nil))
     ·refine WO.does (za (o':=k*15) rfl rfl hkN (Nat.zero_add _)) ?_;exact WA.go hA (hS63 q2 z2 hz2)
    have hS59:A [(158,stV p q g h (F:Int) (m:Int) (.slice pt N.length c)),(159,.slice (some ⟨gl,0,none⟩) N.length cl),(161,.slice (some ⟨gl,0,none⟩) N.length cl),(162,.int .i64 (k:Int)),(163,.pointer (some ⟨gl,k*15,none⟩)),(3,Sx.pt gS),(9,.int .i64 (k:Int)),(10,.slice (some ⟨gl,0,none⟩) N.length cl)] [⟨gS,29,stC p q g h (F:Int) (m:Int) (.slice pt N.length c)⟩,⟨gl,46,RO.flatMap odC++mkz (cl - N.length) (opC 0 0 0 0 0 0)⟩] (bt 15 59) 10:=by
     refine (hA _ _ _ _).2 (WA.step [2,6] (.cons ?_ (.cons ?_ .nil)))
     ·(refine WO.appNZ (z:=opC 0 0 0 0 0 0) (ys:=RO.flatMap odC) (m:=N.length) rfl rfl rfl (Rds.own (m:=N.length*15) Hs.a (hcu _)) hROl (by omega) (by omega) (by omega) (by decide) (fun q2 z2 a2 a3=>?_);have hz2:=And.intro a2 a3);exact WA.go hA (hS63 q2 z2 hz2)
     ·refine WO.does (zq (vs:=odC o) (hc:=hco _)) ?_;exact WA.go hA (hS123)
    have hS121:A [(158,stV p q g h (F:Int) (m:Int) (.slice pt N.length c)),(161,.slice (some ⟨gl,0,none⟩) N.length cl),(162,.int .i64 (k:Int)),(163,.pointer (some ⟨gl,k*15,none⟩)),(164,.agg (odC o).toArray),(3,Sx.pt gS),(9,.int .i64 (k:Int)),(10,.slice (some ⟨gl,0,none⟩) N.length cl)] [⟨gS,29,stC p q g h (F:Int) (m:Int) (.slice pt N.length c)⟩,⟨gl,46,RO.flatMap odC++mkz (cl - N.length) (opC 0 0 0 0 0 0)⟩] (bt 15 121) 10:=by
     refine (hA _ _ _ _).2 (WA.step [1,7] (.cons ?_ (.cons ?_ .nil)))
     ·refine Tw ?_;exact WA.go hA (hS123)
     ·(refine WO.makes (zd (cs:=odC o) rfl (by decide) rfl) ?_;intro q7);exact WA.go hA (hS249 q7)
    have hS62:∀ q2 z2,(z2<9223372036854775808∧N.length≤z2)→A [(159,.slice (some ⟨gl,0,none⟩) N.length cl),(160,.slice (some ⟨q2,0,none⟩) N.length z2),(161,.slice (some ⟨gl,0,none⟩) N.length cl),(162,.int .i64 (k:Int)),(163,.pointer (some ⟨gl,k*15,none⟩)),(3,Sx.pt gS),(9,.int .i64 (k:Int)),(10,.slice (some ⟨gl,0,none⟩) N.length cl)] [⟨q2,46,RO.flatMap odC++mkz (z2 - N.length) (opC 0 0 0 0 0 0)⟩,⟨gS,29,stC p q g h (F:Int) (m:Int) (.slice pt N.length c)⟩,⟨gl,46,RO.flatMap odC++mkz (cl - N.length) (opC 0 0 0 0 0 0)⟩] (bt 15 62) 10:=by
     intro q2 z2 hz2;refine (hA _ _ _ _).2 (WA.step [0,6] (.cons ?_ (.cons ?_ .nil)))
     ·refine Tw ?_;exact WA.go hA (hS63 q2 z2 hz2)
     ·refine WO.does (zq (vs:=odC o) (hc:=hco _)) ?_;exact WA.go hA (hS126 q2 z2 hz2)
    have hS122:A [(159,.slice (some ⟨gl,0,none⟩) N.length cl),(161,.slice (some ⟨gl,0,none⟩) N.length cl),(162,.int .i64 (k:Int)),(163,.pointer (some ⟨gl,k*15,none⟩)),(164,.agg (odC o).toArray),(3,Sx.pt gS),(9,.int .i64 (k:Int)),(10,.slice (some ⟨gl,0,none⟩) N.length cl)] [⟨gS,29,stC p q g h (F:Int) (m:Int) (.slice pt N.length c)⟩,⟨gl,46,RO.flatMap odC++mkz (cl - N.length) (opC 0 0 0 0 0 0)⟩] (bt 15 122) 10:=by
     refine (hA _ _ _ _).2 (WA.step [0,2,7] (.cons ?_ (.cons ?_ (.cons ?_ .nil))))
     ·refine Tw ?_;exact WA.go hA (hS123)
     ·(refine WO.appNZ (z:=opC 0 0 0 0 0 0) (ys:=RO.flatMap odC) (m:=N.length) rfl rfl rfl (Rds.own (m:=N.length*15) Hs.a (hcu _)) hROl (by omega) (by omega) (by omega) (by decide) (fun q2 z2 a2 a3=>?_);have hz2:=And.intro a2 a3);exact WA.go hA (hS126 q2 z2 hz2)
     ·(refine WO.makes (zd (cs:=odC o) rfl (by decide) rfl) ?_;intro q7);exact WA.go hA (hS250 q7)
    have hS248:∀ q7,A [(161,.slice (some ⟨gl,0,none⟩) N.length cl),(162,.int .i64 (k:Int)),(163,.pointer (some ⟨gl,k*15,none⟩)),(164,.agg (odC o).toArray),(165,.slice (some ⟨q7,0,none⟩) 1 1),(3,Sx.pt gS),(9,.int .i64 (k:Int)),(10,.slice (some ⟨gl,0,none⟩) N.length cl)] [⟨q7,46,odC o⟩,⟨gS,29,stC p q g h (F:Int) (m:Int) (.slice pt N.length c)⟩,⟨gl,46,RO.flatMap odC++mkz (cl - N.length) (opC 0 0 0 0 0 0)⟩] (bt 15 248) 10:=by
     intro q7;refine (hA _ _ _ _).2 (WA.step [0,1] (.cons ?_ (.cons ?_ .nil)))
     ·refine Tw ?_;exact WA.go hA (hS249 q7)
     ·refine Tw ?_;exact WA.go hA (hS250 q7)
    have hS15:∀ q2 z2,(z2<9223372036854775808∧N.length≤z2)→A [(158,stV p q g h (F:Int) (m:Int) (.slice pt N.length c)),(159,.slice (some ⟨gl,0,none⟩) N.length cl),(160,.slice (some ⟨q2,0,none⟩) N.length z2),(161,.slice (some ⟨gl,0,none⟩) N.length cl),(3,Sx.pt gS),(9,.int .i64 (k:Int)),(10,.slice (some ⟨gl,0,none⟩) N.length cl)] [⟨q2,46,RO.flatMap odC++mkz (z2 - N.length) (opC 0 0 0 0 0 0)⟩,⟨gS,29,stC p q g h (F:Int) (m:Int) (.slice pt N.length c)⟩,⟨gl,46,RO.flatMap odC++mkz (cl - N.length) (opC 0 0 0 0 0 0)⟩] (bt 15 15) 11:=by
     intro q2 z2 hz2;refine (hA _ _ _ _).2 (WA.step [4] (.cons ?_ .nil))
     ·refine Tw ?_;exact WA.go hA (hS31 q2 z2 hz2)
    have hS23:∀ q2 z2,(z2<9223372036854775808∧N.length≤z2)→A [(158,stV p q g h (F:Int) (m:Int) (.slice pt N.length c)),(159,.slice (some ⟨gl,0,none⟩) N.length cl),(160,.slice (some ⟨q2,0,none⟩) N.length z2),(162,.int .i64 (k:Int)),(3,Sx.pt gS),(9,.int .i64 (k:Int)),(10,.slice (some ⟨gl,0,none⟩) N.length cl)] [⟨q2,46,RO.flatMap odC++mkz (z2 - N.length) (opC 0 0 0 0 0 0)⟩,⟨gS,29,stC p q g h (F:Int) (m:Int) (.slice pt N.length c)⟩,⟨gl,46,RO.flatMap odC++mkz (cl - N.length) (opC 0 0 0 0 0 0)⟩] (bt 15 23) 11:=by
     intro q2 z2 hz2;refine (hA _ _ _ _).2 (WA.step [3] (.cons ?_ .nil))
     ·refine Tw ?_;exact WA.go hA (hS31 q2 z2 hz2)
    have hS27:A [(158,stV p q g h (F:Int) (m:Int) (.slice pt N.length c)),(159,.slice (some ⟨gl,0,none⟩) N.length cl),(161,.slice (some ⟨gl,0,none⟩) N.length cl),(162,.int .i64 (k:Int)),(3,Sx.pt gS),(9,.int .i64 (k:Int)),(10,.slice (some ⟨gl,0,none⟩) N.length cl)] [⟨gS,29,stC p q g h (F:Int) (m:Int) (.slice pt N.length c)⟩,⟨gl,46,RO.flatMap odC++mkz (cl - N.length) (opC 0 0 0 0 0 0)⟩] (bt 15 27) 11:=by
     refine (hA _ _ _ _).2 (WA.step [2,5] (.cons ?_ (.cons ?_ .nil)))
     ·(refine WO.appNZ (z:=opC 0 0 0 0 0 0) (ys:=RO.flatMap odC) (m:=N.length) rfl rfl rfl (Rds.own (m:=N.length*15) Hs.a (hcu _)) hROl (by omega) (by omega) (by omega) (by decide) (fun q2 z2 a2 a3=>?_);have hz2:=And.intro a2 a3);exact WA.go hA (hS31 q2 z2 hz2)
     ·refine WO.does (za (o':=k*15) rfl rfl hkN (Nat.zero_add _)) ?_;exact WA.go hA (hS59)
    have hS57:A [(158,stV p q g h (F:Int) (m:Int) (.slice pt N.length c)),(161,.slice (some ⟨gl,0,none⟩) N.length cl),(162,.int .i64 (k:Int)),(163,.pointer (some ⟨gl,k*15,none⟩)),(3,Sx.pt gS),(9,.int .i64 (k:Int)),(10,.slice (some ⟨gl,0,none⟩) N.length cl)] [⟨gS,29,stC p q g h (F:Int) (m:Int) (.slice pt N.length c)⟩,⟨gl,46,RO.flatMap odC++mkz (cl - N.length) (opC 0 0 0 0 0 0)⟩] (bt 15 57) 11:=by
     refine (hA _ _ _ _).2 (WA.step [1,6] (.cons ?_ (.cons ?_ .nil)))
     ·refine Tw ?_;exact WA.go hA (hS59)
     ·refine WO.does (zq (vs:=odC o) (hc:=hco _)) ?_;exact WA.go hA (hS121)
    have hS30:∀ q2 z2,(z2<9223372036854775808∧N.length≤z2)→A [(159,.slice (some ⟨gl,0,none⟩) N.length cl),(160,.slice (some ⟨q2,0,none⟩) N.length z2),(161,.slice (some ⟨gl,0,none⟩) N.length cl),(162,.int .i64 (k:Int)),(3,Sx.pt gS),(9,.int .i64 (k:Int)),(10,.slice (some ⟨gl,0,none⟩) N.length cl)] [⟨q2,46,RO.flatMap odC++mkz (z2 - N.length) (opC 0 0 0 0 0 0)⟩,⟨gS,29,stC p q g h (F:Int) (m:Int) (.slice pt N.length c)⟩,⟨gl,46,RO.flatMap odC++mkz (cl - N.length) (opC 0 0 0 0 0 0)⟩] (bt 15 30) 11:=by
     intro q2 z2 hz2;refine (hA _ _ _ _).2 (WA.step [0,5] (.cons ?_ (.cons ?_ .nil)))
     ·refine Tw ?_;exact WA.go hA (hS31 q2 z2 hz2)
     ·refine WO.does (za (o':=k*15) rfl rfl hkN (Nat.zero_add _)) ?_;exact WA.go hA (hS62 q2 z2 hz2)
    have hS58:A [(159,.slice (some ⟨gl,0,none⟩) N.length cl),(161,.slice (some ⟨gl,0,none⟩) N.length cl),(162,.int .i64 (k:Int)),(163,.pointer (some ⟨gl,k*15,none⟩)),(3,Sx.pt gS),(9,.int .i64 (k:Int)),(10,.slice (some ⟨gl,0,none⟩) N.length cl)] [⟨gS,29,stC p q g h (F:Int) (m:Int) (.slice pt N.length c)⟩,⟨gl,46,RO.flatMap odC++mkz (cl - N.length) (opC 0 0 0 0 0 0)⟩] (bt 15 58) 11:=by
     refine (hA _ _ _ _).2 (WA.step [0,2,6] (.cons ?_ (.cons ?_ (.cons ?_ .nil))))
     ·refine Tw ?_;exact WA.go hA (hS59)
     ·(refine WO.appNZ (z:=opC 0 0 0 0 0 0) (ys:=RO.flatMap odC) (m:=N.length) rfl rfl rfl (Rds.own (m:=N.length*15) Hs.a (hcu _)) hROl (by omega) (by omega) (by omega) (by decide) (fun q2 z2 a2 a3=>?_);have hz2:=And.intro a2 a3);exact WA.go hA (hS62 q2 z2 hz2)
     ·refine WO.does (zq (vs:=odC o) (hc:=hco _)) ?_;exact WA.go hA (hS122)
    have hS120:A [(161,.slice (some ⟨gl,0,none⟩) N.length cl),(162,.int .i64 (k:Int)),(163,.pointer (some ⟨gl,k*15,none⟩)),(164,.agg (odC o).toArray),(3,Sx.pt gS),(9,.int .i64 (k:Int)),(10,.slice (some ⟨gl,0,none⟩) N.length cl)] [⟨gS,29,stC p q g h (F:Int) (m:Int) (.slice pt N.length c)⟩,⟨gl,46,RO.flatMap odC++mkz (cl - N.length) (opC 0 0 0 0 0 0)⟩] (bt 15 120) 11:=by
     refine (hA _ _ _ _).2 (WA.step [0,1,7] (.cons ?_ (.cons ?_ (.cons ?_ .nil))))
     ·refine Tw ?_;exact WA.go hA (hS121)
     ·refine Tw ?_;exact WA.go hA (hS122)
     ·(refine WO.makes (zd (cs:=odC o) rfl (by decide) rfl) ?_;intro q7);exact WA.go hA (hS248 q7)
    have hS7:∀ q2 z2,(z2<9223372036854775808∧N.length≤z2)→A [(158,stV p q g h (F:Int) (m:Int) (.slice pt N.length c)),(159,.slice (some ⟨gl,0,none⟩) N.length cl),(160,.slice (some ⟨q2,0,none⟩) N.length z2),(3,Sx.pt gS),(9,.int .i64 (k:Int)),(10,.slice (some ⟨gl,0,none⟩) N.length cl)] [⟨q2,46,RO.flatMap odC++mkz (z2 - N.length) (opC 0 0 0 0 0 0)⟩,⟨gS,29,stC p q g h (F:Int) (m:Int) (.slice pt N.length c)⟩,⟨gl,46,RO.flatMap odC++mkz (cl - N.length) (opC 0 0 0 0 0 0)⟩] (bt 15 7) 12:=by
     intro q2 z2 hz2;refine (hA _ _ _ _).2 (WA.step [3,4] (.cons ?_ (.cons ?_ .nil)))
     ·refine Tw ?_;exact WA.go hA (hS15 q2 z2 hz2)
     ·refine Tw ?_;exact WA.go hA (hS23 q2 z2 hz2)
    have hS11:A [(158,stV p q g h (F:Int) (m:Int) (.slice pt N.length c)),(159,.slice (some ⟨gl,0,none⟩) N.length cl),(161,.slice (some ⟨gl,0,none⟩) N.length cl),(3,Sx.pt gS),(9,.int .i64 (k:Int)),(10,.slice (some ⟨gl,0,none⟩) N.length cl)] [⟨gS,29,stC p q g h (F:Int) (m:Int) (.slice pt N.length c)⟩,⟨gl,46,RO.flatMap odC++mkz (cl - N.length) (opC 0 0 0 0 0 0)⟩] (bt 15 11) 12:=by
     refine (hA _ _ _ _).2 (WA.step [2,4] (.cons ?_ (.cons ?_ .nil)))
     ·(refine WO.appNZ (z:=opC 0 0 0 0 0 0) (ys:=RO.flatMap odC) (m:=N.length) rfl rfl rfl (Rds.own (m:=N.length*15) Hs.a (hcu _)) hROl (by omega) (by omega) (by omega) (by decide) (fun q2 z2 a2 a3=>?_);have hz2:=And.intro a2 a3);exact WA.go hA (hS15 q2 z2 hz2)
     ·refine Tw ?_;exact WA.go hA (hS27)
    have hS19:A [(158,stV p q g h (F:Int) (m:Int) (.slice pt N.length c)),(159,.slice (some ⟨gl,0,none⟩) N.length cl),(162,.int .i64 (k:Int)),(3,Sx.pt gS),(9,.int .i64 (k:Int)),(10,.slice (some ⟨gl,0,none⟩) N.length cl)] [⟨gS,29,stC p q g h (F:Int) (m:Int) (.slice pt N.length c)⟩,⟨gl,46,RO.flatMap odC++mkz (cl - N.length) (opC 0 0 0 0 0 0)⟩] (bt 15 19) 12:=by
     refine (hA _ _ _ _).2 (WA.step [2,3] (.cons ?_ (.cons ?_ .nil)))
     ·(refine WO.appNZ (z:=opC 0 0 0 0 0 0) (ys:=RO.flatMap odC) (m:=N.length) rfl rfl rfl (Rds.own (m:=N.length*15) Hs.a (hcu _)) hROl (by omega) (by omega) (by omega) (by decide) (fun q2 z2 a2 a3=>?_);have hz2:=And.intro a2 a3);exact WA.go hA (hS23 q2 z2 hz2)
     ·refine Tw ?_;exact WA.go hA (hS27)
    have hS25:A [(158,stV p q g h (F:Int) (m:Int) (.slice pt N.length c)),(161,.slice (some ⟨gl,0,none⟩) N.length cl),(162,.int .i64 (k:Int)),(3,Sx.pt gS),(9,.int .i64 (k:Int)),(10,.slice (some ⟨gl,0,none⟩) N.length cl)] [⟨gS,29,stC p q g h (F:Int) (m:Int) (.slice pt N.length c)⟩,⟨gl,46,RO.flatMap odC++mkz (cl - N.length) (opC 0 0 0 0 0 0)⟩] (bt 15 25) 12:=by
     refine (hA _ _ _ _).2 (WA.step [1,5] (.cons ?_ (.cons ?_ .nil)))
     ·refine Tw ?_;exact WA.go hA (hS27)
     ·refine WO.does (za (o':=k*15) rfl rfl hkN (Nat.zero_add _)) ?_;exact WA.go hA (hS57)
    have hS14:∀ q2 z2,(z2<9223372036854775808∧N.length≤z2)→A [(159,.slice (some ⟨gl,0,none⟩) N.length cl),(160,.slice (some ⟨q2,0,none⟩) N.length z2),(161,.slice (some ⟨gl,0,none⟩) N.length cl),(3,Sx.pt gS),(9,.int .i64 (k:Int)),(10,.slice (some ⟨gl,0,none⟩) N.length cl)] [⟨q2,46,RO.flatMap odC++mkz (z2 - N.length) (opC 0 0 0 0 0 0)⟩,⟨gS,29,stC p q g h (F:Int) (m:Int) (.slice pt N.length c)⟩,⟨gl,46,RO.flatMap odC++mkz (cl - N.length) (opC 0 0 0 0 0 0)⟩] (bt 15 14) 12:=by
     intro q2 z2 hz2;refine (hA _ _ _ _).2 (WA.step [0,4] (.cons ?_ (.cons ?_ .nil)))
     ·refine Tw ?_;exact WA.go hA (hS15 q2 z2 hz2)
     ·refine Tw ?_;exact WA.go hA (hS30 q2 z2 hz2)
    have hS22:∀ q2 z2,(z2<9223372036854775808∧N.length≤z2)→A [(159,.slice (some ⟨gl,0,none⟩) N.length cl),(160,.slice (some ⟨q2,0,none⟩) N.length z2),(162,.int .i64 (k:Int)),(3,Sx.pt gS),(9,.int .i64 (k:Int)),(10,.slice (some ⟨gl,0,none⟩) N.length cl)] [⟨q2,46,RO.flatMap odC++mkz (z2 - N.length) (opC 0 0 0 0 0 0)⟩,⟨gS,29,stC p q g h (F:Int) (m:Int) (.slice pt N.length c)⟩,⟨gl,46,RO.flatMap odC++mkz (cl - N.length) (opC 0 0 0 0 0 0)⟩] (bt 15 22) 12:=by
     intro q2 z2 hz2;refine (hA _ _ _ _).2 (WA.step [0,3] (.cons ?_ (.cons ?_ .nil)))
     ·refine Tw ?_;exact WA.go hA (hS23 q2 z2 hz2)
     ·refine Tw ?_;exact WA.go hA (hS30 q2 z2 hz2)
    have hS26:A [(159,.slice (some ⟨gl,0,none⟩) N.length cl),(161,.slice (some ⟨gl,0,none⟩) N.length cl),(162,.int .i64 (k:Int)),(3,Sx.pt gS),(9,.int .i64 (k:Int)),(10,.slice (some ⟨gl,0,none⟩) N.length cl)] [⟨gS,29,stC p q g h (F:Int) (m:Int) (.slice pt N.length c)⟩,⟨gl,46,RO.flatMap odC++mkz (cl - N.length) (opC 0 0 0 0 0 0)⟩] (bt 15 26) 12:=by
     refine (hA _ _ _ _).2 (WA.step [0,2,5] (.cons ?_ (.cons ?_ (.cons ?_ .nil))))
     ·refine Tw ?_;exact WA.go hA (hS27)
     ·(refine WO.appNZ (z:=opC 0 0 0 0 0 0) (ys:=RO.flatMap odC) (m:=N.length) rfl rfl rfl (Rds.own (m:=N.length*15) Hs.a (hcu _)) hROl (by omega) (by omega) (by omega) (by decide) (fun q2 z2 a2 a3=>?_);have hz2:=And.intro a2 a3);exact WA.go hA (hS30 q2 z2 hz2)
     ·refine WO.does (za (o':=k*15) rfl rfl hkN (Nat.zero_add _)) ?_;exact WA.go hA (hS58)
    have hS56:A [(161,.slice (some ⟨gl,0,none⟩) N.length cl),(162,.int .i64 (k:Int)),(163,.pointer (some ⟨gl,k*15,none⟩)),(3,Sx.pt gS),(9,.int .i64 (k:Int)),(10,.slice (some ⟨gl,0,none⟩) N.length cl)] [⟨gS,29,stC p q g h (F:Int) (m:Int) (.slice pt N.length c)⟩,⟨gl,46,RO.flatMap odC++mkz (cl - N.length) (opC 0 0 0 0 0 0)⟩] (bt 15 56) 12:=by
     refine (hA _ _ _ _).2 (WA.step [0,1,6] (.cons ?_ (.cons ?_ (.cons ?_ .nil))))
     ·refine Tw ?_;exact WA.go hA (hS57)
     ·refine Tw ?_;exact WA.go hA (hS58)
     ·refine WO.does (zq (vs:=odC o) (hc:=hco _)) ?_;exact WA.go hA (hS120)
    have hS3:A [(158,stV p q g h (F:Int) (m:Int) (.slice pt N.length c)),(159,.slice (some ⟨gl,0,none⟩) N.length cl),(3,Sx.pt gS),(9,.int .i64 (k:Int)),(10,.slice (some ⟨gl,0,none⟩) N.length cl)] [⟨gS,29,stC p q g h (F:Int) (m:Int) (.slice pt N.length c)⟩,⟨gl,46,RO.flatMap odC++mkz (cl - N.length) (opC 0 0 0 0 0 0)⟩] (bt 15 3) 13:=by
     refine (hA _ _ _ _).2 (WA.step [2,3,4] (.cons ?_ (.cons ?_ (.cons ?_ .nil))))
     ·(refine WO.appNZ (z:=opC 0 0 0 0 0 0) (ys:=RO.flatMap odC) (m:=N.length) rfl rfl rfl (Rds.own (m:=N.length*15) Hs.a (hcu _)) hROl (by omega) (by omega) (by omega) (by decide) (fun q2 z2 a2 a3=>?_);have hz2:=And.intro a2 a3);exact WA.go hA (hS7 q2 z2 hz2)
     ·refine Tw ?_;exact WA.go hA (hS11)
     ·refine Tw ?_;exact WA.go hA (hS19)
    have hS9:A [(158,stV p q g h (F:Int) (m:Int) (.slice pt N.length c)),(161,.slice (some ⟨gl,0,none⟩) N.length cl),(3,Sx.pt gS),(9,.int .i64 (k:Int)),(10,.slice (some ⟨gl,0,none⟩) N.length cl)] [⟨gS,29,stC p q g h (F:Int) (m:Int) (.slice pt N.length c)⟩,⟨gl,46,RO.flatMap odC++mkz (cl - N.length) (opC 0 0 0 0 0 0)⟩] (bt 15 9) 13:=by
     refine (hA _ _ _ _).2 (WA.step [1,4] (.cons ?_ (.cons ?_ .nil)))
     ·refine Tw ?_;exact WA.go hA (hS11)
     ·refine Tw ?_;exact WA.go hA (hS25)
    have hS17:A [(158,stV p q g h (F:Int) (m:Int) (.slice pt N.length c)),(162,.int .i64 (k:Int)),(3,Sx.pt gS),(9,.int .i64 (k:Int)),(10,.slice (some ⟨gl,0,none⟩) N.length cl)] [⟨gS,29,stC p q g h (F:Int) (m:Int) (.slice pt N.length c)⟩,⟨gl,46,RO.flatMap odC++mkz (cl - N.length) (opC 0 0 0 0 0 0)⟩] (bt 15 17) 13:=by
     refine (hA _ _ _ _).2 (WA.step [1,3] (.cons ?_ (.cons ?_ .nil)))
     ·refine Tw ?_;exact WA.go hA (hS19)
     ·refine Tw ?_;exact WA.go hA (hS25)
    have hS6:∀ q2 z2,(z2<9223372036854775808∧N.length≤z2)→A [(159,.slice (some ⟨gl,0,none⟩) N.length cl),(160,.slice (some ⟨q2,0,none⟩) N.length z2),(3,Sx.pt gS),(9,.int .i64 (k:Int)),(10,.slice (some ⟨gl,0,none⟩) N.length cl)] [⟨q2,46,RO.flatMap odC++mkz (z2 - N.length) (opC 0 0 0 0 0 0)⟩,⟨gS,29,stC p q g h (F:Int) (m:Int) (.slice pt N.length c)⟩,⟨gl,46,RO.flatMap odC++mkz (cl - N.length) (opC 0 0 0 0 0 0)⟩] (bt 15 6) 13:=by
     intro q2 z2 hz2;refine (hA _ _ _ _).2 (WA.step [0,3,4] (.cons ?_ (.cons ?_ (.cons ?_ .nil))))
     ·refine Tw ?_;exact WA.go hA (hS7 q2 z2 hz2)
     ·refine Tw ?_;exact WA.go hA (hS14 q2 z2 hz2)
     ·refine Tw ?_;exact WA.go hA (hS22 q2 z2 hz2)
    have hS10:A [(159,.slice (some ⟨gl,0,none⟩) N.length cl),(161,.slice (some ⟨gl,0,none⟩) N.length cl),(3,Sx.pt gS),(9,.int .i64 (k:Int)),(10,.slice (some ⟨gl,0,none⟩) N.length cl)] [⟨gS,29,stC p q g h (F:Int) (m:Int) (.slice pt N.length c)⟩,⟨gl,46,RO.flatMap odC++mkz (cl - N.length) (opC 0 0 0 0 0 0)⟩] (bt 15 10) 13:=by
     refine (hA _ _ _ _).2 (WA.step [0,2,4] (.cons ?_ (.cons ?_ (.cons ?_ .nil))))
     ·refine Tw ?_;exact WA.go hA (hS11)
     ·(refine WO.appNZ (z:=opC 0 0 0 0 0 0) (ys:=RO.flatMap odC) (m:=N.length) rfl rfl rfl (Rds.own (m:=N.length*15) Hs.a (hcu _)) hROl (by omega) (by omega) (by omega) (by decide) (fun q2 z2 a2 a3=>?_);have hz2:=And.intro a2 a3);exact WA.go hA (hS14 q2 z2 hz2)
     ·refine Tw ?_;exact WA.go hA (hS26)
    have hS18:A [(159,.slice (some ⟨gl,0,none⟩) N.length cl),(162,.int .i64 (k:Int)),(3,Sx.pt gS),(9,.int .i64 (k:Int)),(10,.slice (some ⟨gl,0,none⟩) N.length cl)] [⟨gS,29,stC p q g h (F:Int) (m:Int) (.slice pt N.length c)⟩,⟨gl,46,RO.flatMap odC++mkz (cl - N.length) (opC 0 0 0 0 0 0)⟩] (bt 15 18) 13:=by
     refine (hA _ _ _ _).2 (WA.step [0,2,3] (.cons ?_ (.cons ?_ (.cons ?_ .nil))))
     ·refine Tw ?_;exact WA.go hA (hS19)
     ·(refine WO.appNZ (z:=opC 0 0 0 0 0 0) (ys:=RO.flatMap odC) (m:=N.length) rfl rfl rfl (Rds.own (m:=N.length*15) Hs.a (hcu _)) hROl (by omega) (by omega) (by omega) (by decide) (fun q2 z2 a2 a3=>?_);have hz2:=And.intro a2 a3);exact WA.go hA (hS22 q2 z2 hz2)
     ·refine Tw ?_;exact WA.go hA (hS26)
    have hS24:A [(161,.slice (some ⟨gl,0,none⟩) N.length cl),(162,.int .i64 (k:Int)),(3,Sx.pt gS),(9,.int .i64 (k:Int)),(10,.slice (some ⟨gl,0,none⟩) N.length cl)] [⟨gS,29,stC p q g h (F:Int) (m:Int) (.slice pt N.length c)⟩,⟨gl,46,RO.flatMap odC++mkz (cl - N.length) (opC 0 0 0 0 0 0)⟩] (bt 15 24) 13:=by
     refine (hA _ _ _ _).2 (WA.step [0,1,5] (.cons ?_ (.cons ?_ (.cons ?_ .nil))))
     ·refine Tw ?_;exact WA.go hA (hS25)
     ·refine Tw ?_;exact WA.go hA (hS26)
     ·refine WO.does (za (o':=k*15) rfl rfl hkN (Nat.zero_add _)) ?_;exact WA.go hA (hS56)
    have hS1:A [(158,stV p q g h (F:Int) (m:Int) (.slice pt N.length c)),(3,Sx.pt gS),(9,.int .i64 (k:Int)),(10,.slice (some ⟨gl,0,none⟩) N.length cl)] [⟨gS,29,stC p q g h (F:Int) (m:Int) (.slice pt N.length c)⟩,⟨gl,46,RO.flatMap odC++mkz (cl - N.length) (opC 0 0 0 0 0 0)⟩] (bt 15 1) 14:=by
     refine (hA _ _ _ _).2 (WA.step [1,3,4] (.cons ?_ (.cons ?_ (.cons ?_ .nil))))
     ·refine Tw ?_;exact WA.go hA (hS3)
     ·refine Tw ?_;exact WA.go hA (hS9)
     ·refine Tw ?_;exact WA.go hA (hS17)
    have hS2:A [(159,.slice (some ⟨gl,0,none⟩) N.length cl),(3,Sx.pt gS),(9,.int .i64 (k:Int)),(10,.slice (some ⟨gl,0,none⟩) N.length cl)] [⟨gS,29,stC p q g h (F:Int) (m:Int) (.slice pt N.length c)⟩,⟨gl,46,RO.flatMap odC++mkz (cl - N.length) (opC 0 0 0 0 0 0)⟩] (bt 15 2) 14:=by
     refine (hA _ _ _ _).2 (WA.step [0,2,3,4] (.cons ?_ (.cons ?_ (.cons ?_ (.cons ?_ .nil)))))
     ·refine Tw ?_;exact WA.go hA (hS3)
     ·(refine WO.appNZ (z:=opC 0 0 0 0 0 0) (ys:=RO.flatMap odC) (m:=N.length) rfl rfl rfl (Rds.own (m:=N.length*15) Hs.a (hcu _)) hROl (by omega) (by omega) (by omega) (by decide) (fun q2 z2 a2 a3=>?_);have hz2:=And.intro a2 a3);exact WA.go hA (hS6 q2 z2 hz2)
     ·refine Tw ?_;exact WA.go hA (hS10)
     ·refine Tw ?_;exact WA.go hA (hS18)
    have hS8:A [(161,.slice (some ⟨gl,0,none⟩) N.length cl),(3,Sx.pt gS),(9,.int .i64 (k:Int)),(10,.slice (some ⟨gl,0,none⟩) N.length cl)] [⟨gS,29,stC p q g h (F:Int) (m:Int) (.slice pt N.length c)⟩,⟨gl,46,RO.flatMap odC++mkz (cl - N.length) (opC 0 0 0 0 0 0)⟩] (bt 15 8) 14:=by
     refine (hA _ _ _ _).2 (WA.step [0,1,4] (.cons ?_ (.cons ?_ (.cons ?_ .nil))))
     ·refine Tw ?_;exact WA.go hA (hS9)
     ·refine Tw ?_;exact WA.go hA (hS10)
     ·refine Tw ?_;exact WA.go hA (hS24)
    have hS16:A [(162,.int .i64 (k:Int)),(3,Sx.pt gS),(9,.int .i64 (k:Int)),(10,.slice (some ⟨gl,0,none⟩) N.length cl)] [⟨gS,29,stC p q g h (F:Int) (m:Int) (.slice pt N.length c)⟩,⟨gl,46,RO.flatMap odC++mkz (cl - N.length) (opC 0 0 0 0 0 0)⟩] (bt 15 16) 14:=by
     refine (hA _ _ _ _).2 (WA.step [0,1,3] (.cons ?_ (.cons ?_ (.cons ?_ .nil))))
     ·refine Tw ?_;exact WA.go hA (hS17)
     ·refine Tw ?_;exact WA.go hA (hS18)
     ·refine Tw ?_;exact WA.go hA (hS24)
    have hS0:A [(3,Sx.pt gS),(9,.int .i64 (k:Int)),(10,.slice (some ⟨gl,0,none⟩) N.length cl)] [⟨gS,29,stC p q g h (F:Int) (m:Int) (.slice pt N.length c)⟩,⟨gl,46,RO.flatMap odC++mkz (cl - N.length) (opC 0 0 0 0 0 0)⟩] (bt 15 0) 15:=by
     refine (hA _ _ _ _).2 (WA.step [0,1,3,4] (.cons ?_ (.cons ?_ (.cons ?_ (.cons ?_ .nil)))))
     ·refine Tw ?_;exact WA.go hA (hS1)
     ·refine Tw ?_;exact WA.go hA (hS2)
     ·refine Tw ?_;exact WA.go hA (hS8)
     ·refine Tw ?_;exact WA.go hA (hS16)
    exact (hA _ _ _ _).2 (WA.less _ _ ((hA _ _ _ _).1 hS0))
   intro q2 q7 q8 z2 z8 hz2;refine (hA _ _ _ _).2 (WA.done ?_)
   repeat (first|refine WO.does (yQ rfl rfl rfl) ?_|refine Ta ?_|(refine Tm ?_;intro _)|refine WO.acall (hc:=hAl) (k:=?_)|refine Tc ?_|exact Tz)
   done
end
end Sx
end
end Go.Proofs.YtbhblpnjhkddbaaGreat
