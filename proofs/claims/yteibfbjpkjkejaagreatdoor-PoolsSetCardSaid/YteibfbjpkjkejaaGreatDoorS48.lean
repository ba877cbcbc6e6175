/- Part 48 of the proof. -/
import Derived.Test.YteibfbjpkjkejaaGreatDoorS47
import Derived.Test.YteibfbjpkjkejaaGreatDoorCards
import Derived.Test.YteibfbjpkjkejaaGreatDoorTie
import Derived.ProofKit
import Derived.LaidMore
import Derived.Stop.Joined
import Derived.SevenTiedAt
import Derived.ChangeArms
import Derived.OpenShut
import Derived.DataReads
import Derived.WideShapes
set_option linter.unusedSimpArgs false
set_option linter.unusedVariables false
namespace Go.Proofs.YteibfbjpkjkejaaGreatDoor
section
open Go Go.RowKit Go.BigFrame
namespace Sx
def dqX (p q g a F m:Nat) (ks:List (Nat × Nat)) (ep d:Nat) (P:List Nat):Dd :=
  ⟨dqD ks.length d,dVs p q g (dqL q P (F+m)) ks.length,dYs p q (dqL q P (F+m)) (csN p g a ks) ks.length,dPs p q g (dqL q P (F+m)) (csN p g a ks) ep (dqD ks.length d) (ks.getD (dqD ks.length d - 1) (0,0)).1 ks.length,
   (dSg p q g (dqL q P (F+m)) (csN p g a ks) ep (dqD ks.length d) (ks.getD (dqD ks.length d - 1) (0,0)).1 ks.length).1,(dSg p q g (dqL q P (F+m)) (csN p g a ks) ep (dqD ks.length d) (ks.getD (dqD ks.length d - 1) (0,0)).1 ks.length).2⟩
section
variable {p q g a F m:Nat} {ks:List (Nat × Nat)} {ep d:Nat} {P:List Nat}
theorem abU:(dqX p q g a F m ks ep d P).V.length=ks.length:=by simp[dqX,dVs]
theorem aaY:(dqX p q g a F m ks ep d P).Y.length=ks.length:=by simp[dqX,dYs]
theorem aa7:(dqX p q g a F m ks ep d P).P.length=ks.length:=by simp[dqX,dPs]
theorem acN (hn:0<ks.length) (h7:ks.length≤7):fW (dqX p q g a F m ks ep d P):=by
 have h1:=abU (p:=p) (q:=q) (g:=g) (a:=a) (F:=F) (m:=m) (ks:=ks) (ep:=ep) (d:=d) (P:=P);have h2:=aaY (p:=p) (q:=q) (g:=g) (a:=a) (F:=F) (m:=m) (ks:=ks) (ep:=ep) (d:=d) (P:=P);have h3:=aa7 (p:=p) (q:=q) (g:=g) (a:=a) (F:=F) (m:=m) (ks:=ks) (ep:=ep) (d:=d) (P:=P);exact⟨fun e=>by rw[e] at h1;simp at h1;omega,fun e=>by rw[e] at h2;simp at h2;omega,fun e=>by rw[e] at h3;simp at h3;omega,by omega,by omega,by omega⟩
theorem abS (hp:p<zd) (hq:q<zd) (h0:0<q):acd (dqX p q g a F m ks ep d P):=⟨aed hp,acZ hp,adR hq h0,(aav hq h0).1,(aav hq h0).2⟩
theorem aeE (hn:0<ks.length):0<(dqX p q g a F m ks ep d P).d∧(dqX p q g a F m ks ep d P).d≤(csN p g a ks).length:=by
 have:d%ks.length<ks.length:=Nat.mod_lt _ hn;rw[uq];show 0<1+d%ks.length∧1+d%ks.length≤ks.length;omega
theorem adA (hc:fQ p q g a (F:Int) (m:Int) ks) (hn:0<ks.length):ckE p q g (exN p g a) (F:Int) (m:Int) (csN p g a ks) ep (dqX p q g a F m ks ep d P).d (dqX p q g a F m ks ep d P).V (dqX p q g a F m ks ep d P).Y (dqX p q g a F m ks ep d P).P (dqX p q g a F m ks ep d P).c (dqX p q g a F m ks ep d P).s=none:=by
 have h:=dN (ep:=ep) hc.pri (mw hc d P hn);rw[uq] at h;exact h
end
section
variable (p q g h0 a:Nat) (F m:Nat) (pk:Option Addr) (ck:Nat) (ks:List (Nat × Nat)) (pt:Option Addr) (c:Nat) (ep d:Nat) (pP:Option Addr) (cP:Nat) (P:List Nat)
theorem aes {a b c:Ent}:[a,b,c].Perm [c,b,a]:=List.reverse_perm [c,b,a]
theorem Fn.perm {Pg:Program} {f:FuncId} {args:List Value} {R:World→Prop} {post post' : Value→List Ent→Prop} (h:Fn Pg f args R post) (hp:∀ v N,post v N→∃ N',N.Perm N'∧post' v N'):Fn Pg f args R post' :=
 fun w hw=>(h w hw).mono fun _ _ ⟨v,N,h1,h2,h3,h4⟩=>by
  obtain⟨N',h5,h6⟩:=hp v N h4;exact⟨v,N',h1,h2,⟨fun e he=>h3.ok e (h5.mem_iff.2 he),fun e he=>h3.new e (h5.mem_iff.2 he),(h5.map Ent.g).nodup_iff.1 h3.nodup⟩,h6⟩
theorem acb (hc:fQ p q g a (F:Int) (m:Int) ks) (hn:0<ks.length) (hp:p<zd) (hq:q<zd) (hg:g<zd) (hh0:h0<zd) (ha:a<zd) (hks:yz ks) (hP:∀ x∈P,x<4294967296) (hd:d<256) (hep:ep<18446744073709551616) :
  Fn Tryz.prog 9 [csV p q g h0 a (F:Int) (m:Int) (.slice pk ks.length ck),stV p q g (exN p g a) (F:Int) (m:Int) (.slice pt ks.length c),.int .u64 (ep:Int),dqV d (.slice pP P.length cP)]
   (fun w=>RdF yw (.slice pk ks.length ck) ks w∧RdF yw (.slice pt ks.length c) (csN p g a ks) w∧RdE aap (.slice pP P.length cP) P w)
   (Ex (fun s=>acV ep (dqX p q g a F m ks ep d P) (some ⟨s 0,0,none⟩) (some ⟨s 1,0,none⟩) (some ⟨s 2,0,none⟩) ks.length ks.length ks.length) (fun s=>ddL (dqX p q g a F m ks ep d P) ⟨s 0,s 1,s 2,0,0,0⟩) (fun _=>True)):=by
 refine Fn.perm (acq p q g h0 a F m pk ck ks pt c ep d pP cP P hc hn hp hq hg hh0 ha hks hP hd hep) ?_;rintro v N ⟨s,rfl,rfl,_⟩;refine⟨ddL (dqX p q g a F m ks ep d P) ⟨s 0,s 1,s 2,0,0,0⟩,?_,s,?_,rfl,trivial⟩
 ·simp only[ddL,mkz,List.replicate_zero,List.flatten_nil,List.append_nil,dqX];exact aes
 ·unfold acV;rw[abU,aaY,aa7];rfl
end
section
variable {P:Program} {w0:World} {gs:List Nat} {n:Nat} {ops:List Oper} {Q:Exit→Act→World→Prop} {K:List (Nat × Value)} {L:List Ent} {rest:List Oper}
variable {d:Nat} {op:Op} {ty:TypeId} {pos:String} {after:Array Edge} {gd:Option (Nat × Bool)}
theorem WO.flip {A T:List Ent} (k:WO P w0 gs n ops Q K (A++T) rest):WO P w0 gs n ops Q K (T++A) rest:=fun a w h1 h2 h3 h4=>k a w h1 h2 h3 (h4.perm List.perm_append_comm)
theorem WO.callsT {f:FuncId} [Cal P f] {xs:Array Operand} {ats:Array TypeId} {ar:List Value} {M A T R0:List Ent} {Rq:World→Prop} {post:Value→List Ent→Prop} {post' : Value→List Ent→Prop} (hc:FnL P f ar (T++M) Rq post) (hq:∀ v N,post v N→∃ T',N=T'++M∧post' v T') (hL:L=A++T) (hA:Pks A M R0)
  (hR:∀ w,Mr w0 gs L w→Rq w) (k:∀ v T',post' v T'→WO P w0 gs n ops Q ((d,v)::K) (A++T') rest) (ha:evs K xs.toList=some ar:=by rfl) (hd:Nat.blt d n=true:=by rfl) (hw:wk ops K gd=some true:=by rfl) :
  WO P w0 gs n ops Q K L (⟨some d,.call { callee:=.value (.func f),args:=xs,argTypes:=ats },ty,pos,after,gd⟩::rest):=by
 intro a w hdf hsz hk hme;subst hL;refine wpList_step fun F hF=>?_;rw[if_pos (zV (o:=⟨some d,.call { callee:=.value (.func f),args:=xs,argTypes:=ats },ty,pos,after,gd⟩) hk hw)];have hd' : d<n:=by simpa [Nat.blt_eq] using hd
 have hpm:(A++T).Perm ((T++M)++R0):=by
  refine List.perm_append_comm.trans ?_;rw[List.append_assoc];exact List.Perm.append_left _ hA.perm
 have hme':=hme.perm hpm;have hnd:=hme'.nodup;rw[List.map_append,List.nodup_append] at hnd;unfold Oper.wp;have h1:=ve (P:=P) (f:=f) (ty:=ty) (pos:=pos) (after:=after) (gd:=gd) (dst:=some d) (ats:=ats) (x:=.func f) (w:=w) (fs:=[]) (cs:=[]) hk rfl ha;simp only[List.nil_append,List.append_nil] at h1;rw[h1,Oper.upon_enter];refine (hc w (fun e he=>hme'.ok e (List.mem_append_left _ he)) hnd.1 (hR w hme.mr)).mono ?_;rintro e w' ⟨v,N,rfl,hm,hp⟩;obtain⟨T',rfl,hp'⟩:=hq v N hp;have h5:=hme'.callL hm;rw[List.append_assoc] at h5;have h6:(T'++(M++R0)).Perm (A++T'):=(List.Perm.append_left _ hA.perm.symm).trans List.perm_append_comm;exact hF _ _ (k v T' hp' _ _ (by rw[put_defers];exact hdf) (by rw[zP];exact hsz) (hk.put (by omega) v) (h5.perm h6))
end
structure afk (k:Pl) (p q g h:Nat) (f sec:Int) (N:List (Nat × Nat)) (ep:Nat):Prop where
 p:k.p=p
 q:k.q=q
 g:k.g=g
 h:k.h=h
 f:k.f=f
 sec:k.sec=sec
 N:k.N=N
 ep:k.ep=ep
theorem aeQ (p q g h:Nat) (f sec:Int) (pt' : Option Addr) (c:Nat) (N:List (Nat × Nat)) (ep:Nat) (hp:p<zd) (hq:q<zd) (hg:g<zd) (hh:h<zd) (hN:yz N) (hNl:N.length≤100)
  (hf1 : -9223372036854775808≤f) (hf2:f≤9223372036854775807) (hs1 : -9223372036854775808≤sec) (hs2:sec≤9223372036854775807) (hep:ep<18446744073709551616) (hS:uc p q g h f sec N=true) :
  Fn Tryz.prog 8 [stV p q g h f sec (.slice pt' N.length c),.int .u64 (ep:Int)] (fun w=>RdF yw (.slice pt' N.length c) N w) (fun v M=>∃ k:Pl,v=.tuple #[Sx.pt k.P,.int .i64 0]∧M=vT k (fun _=>0) (fun _=>0) []∧afk k p q g h f sec N ep):=by
 refine Fn.perm (ft p q g h f sec pt' c N ep hp hq hg hh hN hNl hf1 hf2 hs1 hs2 hep) ?_;rintro v M ⟨hv,_⟩;obtain⟨P,gN,cN,gM,rfl,rfl⟩:=hv hS;exact⟨_,(List.Perm.swap _ _ _).cons _,⟨P,gM,gN,cN,p,q,g,h,ep,f,sec,N⟩,rfl,rfl,rfl,rfl,rfl,rfl,rfl,rfl,rfl,rfl⟩
theorem PlI.nil (k:Pl) (h7:k.N.length≤7):PlI k (fun _=>0) []:=⟨by simp,by simp,by simp,fun j hj=>absurd hj (by simp[ddK]),h7,by simp⟩
inductive Tl:List Ent→List Ent→List Ent→Prop
 | here {T:List Ent}:Tl T [] T
 | cons {e:Ent} {L A T:List Ent}:Tl L A T→Tl (e::L) (e::A) T
 | app {X L A T:List Ent}:Tl L A T→Tl (X++L) (X++A) T
theorem Tl.eq {L A T:List Ent} (h:Tl L A T):L=A++T:=by
 induction h with
 | here=>rfl
 | cons _ ih=>rw[ih];rfl
 | app _ ih=>rw[ih,List.append_assoc]
theorem Fn.drop {Pg:Program} {f:FuncId} {args:List Value} {R:World→Prop} {post post' : Value→List Ent→Prop} (h:Fn Pg f args R post) (hp:∀ v N,post v N→post' v []):Fn Pg f args R post' :=
 fun w hw=>(h w hw).mono fun _ _ ⟨v,N,h1,h2,_,h4⟩=>⟨v,[],h1,h2,iT.nil _ _,hp v N h4⟩
end Sx
end
section
open Go Go.RowKit Go.BigFrame
namespace Sx
attribute [local irreducible] DQ DQS WC WO WX vT wd
end Sx
end
section
open Go Go.RowKit Go.BigFrame Go.WideShapes
namespace Sx
theorem yJ (cs:List Value) (a b c:Nat):cut cs a b++cut cs (a+b) c=cut cs a (b+c):=by
 unfold cut;rw[List.take_add,List.drop_drop]
section
variable {H:Type} {enc:TypeId × Value→H} {P:Program} {w:World} {base:Nat} {spare:Nat→Bool} {held:Bool} {fuel:Nat} {cs:List Value} {x:DataW H × List MemPlace}
theorem uG {t:TypeId} {fs:Array Field} {m:Nat} (ht:P.underlying t=some (.struct fs)) (hm:P.cellsOf t=m) (h:DataW.trod enc P w base spare held fuel t cs=some x):cs.length=m:=by
 obtain⟨xs,n,_,_,hl,_⟩:=DataW.trod_struct ht h;rw[hl,hm]
theorem ye {t:TypeId} {fs:Array Field} (ht:P.underlying t=some (.struct fs)) (h:DataW.trod enc P w base spare held fuel t cs=some x) {i off ty sz:Nat} {f:Field} (hf:fs[i]?=some f) (ho:f.offset=off) (hty:f.type=ty) (hs:P.cellsOf ty=sz) :
  ∃ n y,DataW.trod enc P w base spare held n ty (cut cs off sz)=some y:=by
 obtain⟨xs,n,_,_,_,hlen,hp⟩:=DataW.trod_struct ht h;have h1:=hp i f hf;subst ho hty hs;have hi:i<xs.length:=by
  rw[hlen]
  rcases Nat.lt_or_ge i fs.size with h2|h2
  ·exact h2
  ·rw[Array.getElem?_eq_none h2] at hf;cases hf
 rw[List.getElem?_eq_getElem hi] at h1;exact⟨n,_,h1⟩
theorem tJ {t:TypeId} (ht:P.underlying t=some (.int .u64)) (h:DataW.trod enc P w base spare held fuel t cs=some x):∃ n:Nat,n<18446744073709551616∧cs=[.int .u64 (n:Int)]:=by
 obtain⟨n,rfl,_,hw⟩:=DataW.trod_int ht h;simp only[Lit.wf,IntKind.min,IntKind.max,IntKind.signed,IntKind.bits,Bool.and_eq_true,decide_eq_true_eq] at hw;have h1:(0:Int)≤n:=by simpa using hw.1
 have h2:n≤18446744073709551615:=by simpa using hw.2
 exact⟨n.toNat,by omega,by rw[Int.toNat_of_nonneg h1]⟩
theorem oC {t:TypeId} (ht:P.underlying t=some (.int .u8)) (h:DataW.trod enc P w base spare held fuel t cs=some x):∃ n:Nat,n<256∧cs=[.int .u8 (n:Int)]:=by
 obtain⟨n,rfl,_,hw⟩:=DataW.trod_int ht h;simp only[Lit.wf,IntKind.min,IntKind.max,IntKind.signed,IntKind.bits,Bool.and_eq_true,decide_eq_true_eq] at hw;have h1:(0:Int)≤n:=by simpa using hw.1
 have h2:n≤255:=by simpa using hw.2
 exact⟨n.toNat,by omega,by rw[Int.toNat_of_nonneg h1]⟩
theorem mf {t:TypeId} (ht:P.underlying t=some (.int .i64)) (h:DataW.trod enc P w base spare held fuel t cs=some x):∃ n:Int,-9223372036854775808≤n∧n≤9223372036854775807∧cs=[.int .i64 n]:=by
 obtain⟨n,rfl,_,hw⟩:=DataW.trod_int ht h;simp only[Lit.wf,IntKind.min,IntKind.max,IntKind.signed,IntKind.bits,Bool.and_eq_true,decide_eq_true_eq] at hw;exact⟨n,by simpa using hw.1,by simpa using hw.2,rfl⟩
theorem dW {t e:TypeId} (ht:P.underlying t=some (.array 4 e)) (he:P.underlying e=some (.int .u64)) (h4:P.cellsOf t=4) (h1:P.cellsOf e=1) (h:DataW.trod enc P w base spare held fuel t cs=some x):∃ n:Nat,n<zd∧cs=zc n:=by
 obtain⟨xs,m,_,_,hl,hlen,hp⟩:=DataW.trod_array ht h;rw[h4] at hl
 match cs,hl with
 | [c0,c1,c2,c3],_ =>
  have k:∀ (i:Nat),i<4→∃ y,DataW.trod enc P w base spare held m e (([c0,c1,c2,c3].drop (i*P.cellsOf e)).take (P.cellsOf e))=some y:=fun i hi=>by
   have h2:=hp i hi;rw[List.getElem?_eq_getElem (by omega)] at h2;exact⟨_,h2⟩
  rw[h1] at k;obtain⟨y0,k0⟩:=k 0 (by omega);obtain⟨y1,k1⟩:=k 1 (by omega);obtain⟨y2,k2⟩:=k 2 (by omega);obtain⟨y3,k3⟩:=k 3 (by omega);obtain⟨a0,b0,e0⟩:=tJ he k0;obtain⟨a1,b1,e1⟩:=tJ he k1;obtain⟨a2,b2,e2⟩:=tJ he k2;obtain⟨a3,b3,e3⟩:=tJ he k3;simp at e0 e1 e2 e3;subst e0 e1 e2 e3;obtain⟨w0,w1,w2,w3⟩:=eW b0 b1 b2 b3;exact⟨tc a0 a1 a2 a3,lH b0 b1 b2 b3,by rw[zc,w0,w1,w2,w3]⟩
theorem Seg.app {b o:Nat} {A B:List Value} (hA:Seg w b o A) (hB:Seg w b (o+A.length) B):Seg w b o (A++B):=by
 intro i v hv
 rcases Nat.lt_or_ge i A.length with h|h
 ·rw[List.getElem?_append_left h] at hv;exact hA i v hv
 ·rw[List.getElem?_append_right h] at hv;have:=hB _ v hv;rwa [show o+A.length+(i - A.length)=o+i by omega] at this
theorem seg_of_cells {b o n:Nat} {l:List Value} (h:w.cells? base ⟨b,o,none⟩ n=some l):Seg w b o l:=by
 obtain⟨_,hl,hc⟩:=World.cells?_some h;intro i v hv;have hi:i<n:=by
  rw[← hl]
  rcases Nat.lt_or_ge i l.length with h1|h1
  ·exact h1
  ·rw[List.getElem?_eq_none h1] at hv;cases hv
 have:=hc i hi;rw[vO] at this;rw[this,hv]
theorem nw {α:Type} {f:α→List Value} {ok:α→Prop} {t e:TypeId} {k:Nat} (ht:P.underlying t=some (.slice e)) (hk:P.cellsOf e=k) (hf:∀ a,(f a).length=k)
  (hE:∀ (fuel:Nat) (cs:List Value) (x:DataW H × List MemPlace),DataW.trod enc P w base spare held fuel e cs=some x→∃ a,ok a∧cs=f a)
  (h:DataW.trod enc P w base spare held fuel t cs=some x) (hs:∀ a l c,cs=[.slice (some a) l c]→a.spot=none) :
  ∃ pt xs c,cs=[.slice pt xs.length c]∧(∀ a∈xs,ok a)∧RdF f (.slice pt xs.length c) xs w:=by
 rcases DataW.trod_slice ht h with ⟨rfl,_⟩|⟨a,len,cap,elems,rest,n,_,rfl,_,_,_,_,hlen,hel,_⟩
 ·exact⟨none,[],0,rfl,by simp,none,0,rfl,.inl ⟨rfl,rfl⟩⟩
 have ha:=hs a len cap rfl;obtain⟨b,o,sp⟩:=a;simp only at ha;subst ha;have key:∀ m,m≤len→∃ xs:List α,xs.length=m∧(∀ a∈xs,ok a)∧Seg w b o (xs.flatMap f):=by
  intro m
  induction m with
  | zero=>exact fun _=>⟨[],rfl,by simp,fun i v hv=>by simp at hv⟩
  | succ m ih =>
   intro hm;obtain⟨xs,h1,h2,h3⟩:=ih (by omega);have h4:=hel m (by omega);rw[List.getElem?_eq_getElem (by omega),hk,vO] at h4;cases h5:w.cells? base ⟨b,o+m*k,none⟩ k with
   | none=>rw[h5] at h4;cases h4
   | some l =>
    rw[h5] at h4;obtain⟨y,hy,rfl⟩:=hE n l _ h4;refine⟨xs++[y],by simp[h1],fun a ha=>?_,?_⟩
    ·rcases List.mem_append.1 ha with ha|ha
     ·exact h2 a ha
     ·obtain rfl:=List.mem_singleton.1 ha;exact hy
    ·rw[List.flatMap_append];refine h3.app ?_;rw[zU hf,h1];simpa using seg_of_cells h5
 obtain⟨xs,rfl,h2,h3⟩:=key len (Nat.le_refl _);exact⟨some ⟨b,o,none⟩,xs,cap,rfl,h2,_,cap,rfl,.inr ⟨b,o,rfl,h3⟩⟩
theorem kl {r:Reach} {b0:Nat} {t u e:TypeId} {cs:Array Value} {ts:List TypeId} {fs:Array Field} {i:Nat} (ht:P.underlying t=some (.struct fs)) (hts:P.cellTypes P.depth t=some ts) (hn:ts.length=P.cellsOf t)
  (hv:Value.okWide P w r b0 t (.agg cs)) (hu:ts[i]?=some u) (hue:P.underlying u=some (.slice e)):∀ a l c,cs[i]?=some (.slice (some a) l c)→a.spot=none:=by
 intro a l c hc;unfold Value.okWide at hv;rw[ht] at hv;obtain⟨cs',h1,h2,ts',h3,_,h4⟩:=hv;cases h1;rw[hts] at h3;cases h3;obtain⟨u',h5,h6⟩:=h4 i _ hc;have hi:i<ts.length:=by
  rcases Nat.lt_or_ge i ts.length with h|h
  ·exact h
  ·rw[List.getElem?_eq_none h] at hu;cases hu
 rw[Nat.mod_eq_of_lt hi,hu] at h5;cases h5;unfold Cell.okWide Cell.ok at h6;rw[hue] at h6;exact h6.2.2.2.1
end
section
variable {H:Type} {enc:TypeId × Value→H} {w:World} {base:Nat} {spare:Nat→Bool} {held:Bool} {fuel:Nat} {cs:List Value} {x:DataW H × List MemPlace}
theorem aem:Tryz.prog.cellsOf 22=1:=by kernel_rfl
theorem aeW:Tryz.prog.cellsOf 5=1:=by kernel_rfl
theorem adG:Tryz.prog.cellsOf 3=1:=by kernel_rfl
theorem mG:Tryz.prog.cellsOf 24=4:=by kernel_rfl
theorem dS:Tryz.prog.cellsOf 26=16:=by kernel_rfl
theorem lD (h:DataW.trod enc Tryz.prog w base spare held fuel 24 cs=some x):∃ n:Nat,n<zd∧cs=zc n:=dW Tryz.underlying24 Tryz.underlying22 mG aem h
theorem abp (h:DataW.trod enc Tryz.prog w base spare held fuel 26 cs=some x):∃ p q g u,p<zd∧q<zd∧g<zd∧u<zd∧cs=zL p q g u:=by
 have hl:=uG Tryz.underlying26 dS h;obtain⟨_,_,h0⟩:=ye Tryz.underlying26 h (i:=0) (off:=0) (ty:=24) rfl rfl rfl mG;obtain⟨_,_,h1⟩:=ye Tryz.underlying26 h (i:=1) (off:=4) (ty:=24) rfl rfl rfl mG;obtain⟨_,_,h2⟩:=ye Tryz.underlying26 h (i:=2) (off:=8) (ty:=24) rfl rfl rfl mG;obtain⟨_,_,h3⟩:=ye Tryz.underlying26 h (i:=3) (off:=12) (ty:=24) rfl rfl rfl mG;obtain⟨a,ha,e0⟩:=lD h0;obtain⟨b,hb,e1⟩:=lD h1;obtain⟨c,hc,e2⟩:=lD h2;obtain⟨d,hd,e3⟩:=lD h3;refine⟨a,b,c,d,ha,hb,hc,hd,?_⟩;rw[← zz hl,← yJ cs 0 4 12,← yJ cs (0+4) 4 8,← yJ cs (0+4+4) 4 4,e0,e1,e2,e3];rfl
theorem abI {i:Nat} {v:Value} (h:cut cs i 1=[v]):cs[i]?=some v:=by
 have:=uw (j:=0) (v:=v) h rfl;rwa [Nat.add_zero] at this
theorem aK {o n i:Nat} {v:Value} (h:(cut cs o n)[i]?=some v):cs[o+i]?=some v:=by
 unfold cut at h;rw[List.getElem?_take] at h
 split at h
 ·rwa [List.getElem?_drop] at h
 ·cases h
theorem gU {P:Program} {t:TypeId} (ht:P.underlying t=some (.int .u32)) (h:DataW.trod enc P w base spare held fuel t cs=some x):∃ n:Nat,n<4294967296∧cs=[.int .u32 (n:Int)]:=by
 obtain⟨n,rfl,_,hw⟩:=DataW.trod_int ht h;simp only[Lit.wf,IntKind.min,IntKind.max,IntKind.signed,IntKind.bits,Bool.and_eq_true,decide_eq_true_eq] at hw;have h1:(0:Int)≤n:=by simpa using hw.1
 have h2:n≤4294967295:=by simpa using hw.2
 exact⟨n.toNat,by omega,by rw[Int.toNat_of_nonneg h1]⟩
theorem pA {P:Program} {α:Type} {f:α→List Value} {ok:α→Prop} {t e:TypeId} {k:Nat} (ht:P.underlying t=some (.slice e)) (hk:P.cellsOf e=k) (hk0:0<k) (hf:∀ a,(f a).length=k)
  (hE:∀ (fuel:Nat) (cs:List Value) (x:DataW H × List MemPlace),DataW.trod enc P w base spare held fuel e cs=some x→∃ a,ok a∧cs=f a)
  (h:DataW.trod enc P w base spare held fuel t cs=some x):∃ pt xs c,cs=[.slice pt (List.length xs) c]∧(∀ a∈xs,ok a)∧RdE f (.slice pt xs.length c) xs w:=by
 rcases DataW.trod_slice ht (id h) with ⟨rfl,_⟩|⟨a,len,cap,elems,rest,n,_,rfl,_,_,_,_,hlen,hel,_⟩
 ·exact⟨none,[],0,rfl,by simp,none,0,rfl,.inl rfl⟩
 rcases Nat.eq_zero_or_pos len with h0|h0
 ·subst h0;exact⟨some a,[],cap,rfl,by simp,some a,cap,rfl,.inl rfl⟩
 ·have ha:a.spot=none:=by
   have h4:=hel 0 h0;rw[List.getElem?_eq_getElem (by omega),hk] at h4;cases h5:w.cells? base (a.add (0*k)) k with
   | none=>rw[h5] at h4;cases h4
   | some l =>
    obtain⟨_,hl,hc⟩:=World.cells?_some h5;have h6:=hc 0 hk0;rw[List.getElem?_eq_getElem (by omega)] at h6;have h7:=World.cell?_spot h6;simpa [Addr.add] using h7
  obtain⟨pt,xs,c,e,h1,h2⟩:=nw ht hk hf hE h (fun a' l c e=>by cases e;exact ha);exact⟨pt,xs,c,e,h1,h2.toE⟩
theorem kN:Tryz.prog.cellsOf 76=8:=by kernel_rfl
theorem eu:Tryz.prog.cellsOf 27=1:=by kernel_rfl
theorem aaD:Tryz.prog.cellsOf 29=23:=by kernel_rfl
theorem ae0:Tryz.prog.cellsOf 85=1:=by kernel_rfl
theorem aee:Tryz.prog.cellsOf 30=1:=by kernel_rfl
theorem afb:Tryz.prog.cellsOf 32=2:=by kernel_rfl
theorem cv (h:DataW.trod enc Tryz.prog w base spare held fuel 76 cs=some x):∃ k:Nat × Nat,(k.1<zd∧k.2<zd)∧cs=yw k:=by
 have hl:=uG Tryz.underlying76 kN h;obtain⟨_,_,h0⟩:=ye Tryz.underlying76 h (i:=0) (off:=0) (ty:=24) rfl rfl rfl mG;obtain⟨_,_,h1⟩:=ye Tryz.underlying76 h (i:=1) (off:=4) (ty:=24) rfl rfl rfl mG;obtain⟨a,ha,e0⟩:=lD h0;obtain⟨b,hb,e1⟩:=lD h1;refine⟨(a,b),⟨ha,hb⟩,?_⟩;rw[← zz hl,← yJ cs 0 4 4,e0,e1];rfl
theorem adB (h:DataW.trod enc Tryz.prog w base spare held fuel 29 cs=some x) (hs:∀ a l c,cs[22]?=some (.slice (some a) l c)→a.spot=none) :
  ∃ p q g u a f sec pt ks c,(p<zd∧q<zd∧g<zd∧u<zd∧a<zd)∧(-9223372036854775808≤f∧f≤9223372036854775807∧-9223372036854775808≤sec∧sec≤9223372036854775807)∧yz ks∧cs=csC p q g u a f sec (.slice pt (List.length ks) c)∧RdF yw (.slice pt ks.length c) ks w:=by
 have hl:=uG Tryz.underlying29 aaD h;obtain⟨_,_,h0⟩:=ye Tryz.underlying29 h (i:=0) (off:=0) (ty:=26) rfl rfl rfl dS;obtain⟨_,_,h1⟩:=ye Tryz.underlying29 h (i:=1) (off:=16) (ty:=24) rfl rfl rfl mG;obtain⟨_,_,h2⟩:=ye Tryz.underlying29 h (i:=2) (off:=20) (ty:=3) rfl rfl rfl adG;obtain⟨_,_,h3⟩:=ye Tryz.underlying29 h (i:=3) (off:=21) (ty:=3) rfl rfl rfl adG;obtain⟨_,_,h4⟩:=ye Tryz.underlying29 h (i:=4) (off:=22) (ty:=27) rfl rfl rfl eu;obtain⟨p,q,g,u,hp,hq,hg,hu,e0⟩:=abp h0;obtain⟨a,ha,e1⟩:=lD h1;obtain⟨f,hf1,hf2,e2⟩:=mf Tryz.underlying3 h2;obtain⟨sec,hs1,hs2,e3⟩:=mf Tryz.underlying3 h3;obtain⟨pt,ks,c,e4,hN,hR⟩:=nw (f:=yw) (ok:=fun k=>k.1<zd∧k.2<zd) Tryz.underlying27 kN vX (fun _ _ _ h=>cv h) h4 (fun a l c e=>hs a l c (abI e));refine⟨p,q,g,u,a,f,sec,pt,ks,c,⟨hp,hq,hg,hu,ha⟩,⟨hf1,hf2,hs1,hs2⟩,hN,?_,hR⟩;rw[← zz hl,← yJ cs 0 16 7,← yJ cs (0+16) 4 3,← yJ cs (0+16+4) 1 2,← yJ cs (0+16+4+1) 1 1,e0,e1,e2,e3,e4];rfl
theorem afc (h:DataW.trod enc Tryz.prog w base spare held fuel 32 cs=some x) :
  ∃ d pt P c,d<256∧(∀ y∈P,y<4294967296)∧cs=dqC d (.slice pt (List.length P) c)∧RdE aap (.slice pt P.length c) P w:=by
 have hl:=uG Tryz.underlying32 afb h;obtain⟨_,_,h0⟩:=ye Tryz.underlying32 h (i:=0) (off:=0) (ty:=5) rfl rfl rfl aeW;obtain⟨_,_,h1⟩:=ye Tryz.underlying32 h (i:=1) (off:=1) (ty:=30) rfl rfl rfl aee;obtain⟨d,hd,e0⟩:=oC Tryz.underlying5 h0;obtain⟨pt,P,c,e1,hP,hR⟩:=pA (f:=aap) (ok:=fun y=>y<4294967296) Tryz.underlying30 ae0 (by decide) (fun _=>rfl) (fun _ _ _ h=>gU Tryz.underlying85 h) h1;refine⟨d,pt,P,c,hd,hP,?_,hR⟩;rw[← zz hl,← yJ cs 0 1 1,e0,e1];rfl
end
end Sx
end
end Go.Proofs.YteibfbjpkjkejaaGreatDoor
namespace Go.Proofs.YteibfbjpkjkejaaGreatDoor.Ou
section
open Go Go.RowKit Go.BigFrame Go.ChangeShapes Go.WideShapes Go.ChangeAt Sx
theorem own:ownKnob Tryz.prog.godebug=none:=by kernel_rfl
theorem afo:laidOutB Tryz.prog=true:=by kernel_rfl
abbrev jO:List (String × DataW Unit):=[("errors.errorType",Rows.laid_errors_errorType)]
theorem et:Tryz.prog.globalNamed "errors.errorType"=some 0:=by kernel_rfl
theorem rt:(Tryz.prog.cutTypes.find? (·.1 == "internal/reflectlite.rtype")).map (·.2)=some 244:=by kernel_rfl
theorem aeb:((List.range Tryz.prog.types.size).filter fun t=>Tryz.prog.rowNamed t [101,114,114,111,114])=[127]:=by kernel_rfl
theorem qK {W:World} (h:laidMetH Tryz.prog jO W):oy W:=by
 have h' : laidMet Tryz.prog [] W∧handlesMet Tryz.prog jO W:=h;obtain⟨name,u,ty,e1,e2,e3,e4,e5⟩:=h'.2 _ (List.mem_singleton.2 rfl);have en:name=[101,114,114,111,114]:=(Option.some.inj e1).symm;subst en;obtain rfl:=Option.some.inj (rt.symm.trans e2);have hm:ty∈(List.range Tryz.prog.types.size).filter fun t=>Tryz.prog.rowNamed t [101,114,114,111,114]:=List.mem_filter.2 ⟨List.mem_range.2 e3,e4⟩;rw[aeb] at hm;obtain rfl:=List.mem_singleton.1 hm;have hh:typeHandle Tryz.prog 127=.pointer (some ⟨3,127,none⟩):=by kernel_rfl
 rw[hh] at e5;have hc:W.cell? ⟨0,0,none⟩=some aJ:=by simpa using World.var?_cell et e5 0
 intro i v hv
 match i,hv with
 | 0,hv=>rw[show v=aJ from (Option.some.inj hv).symm];exact hc
set_option maxRecDepth 100000 in
theorem aP (os:Os) (args:Array Value):laidMetH Tryz.prog jO ((World.doorLaid Tryz.prog 24 os).forCall (fun _ _=>0) ⟨#[],args,[]⟩).memory :=
 laidMetH_of_parts (laidMet_nil _ _) (by kernel_rfl)
end
end Go.Proofs.YteibfbjpkjkejaaGreatDoor.Ou
namespace Go.Proofs.YteibfbjpkjkejaaGreatDoor
section
open Go Go.RowKit Go.BigFrame
namespace Sx
section
variable (k:Pl) (lg lc:Nat→Nat) (D:List (Dd × Dk)) (x:Dd) (cV cY cP:Nat) (b0:Dk)
def afn (k:Pl) (D:List (Dd × Dk)) (x:Dd) (was:Bool):Value→List Ent→Prop:=fun v T'=>v=.tuple #[.bool (!was),.int .i64 0]∧∃ lg' lc' D',T'=vT k lg' lc' D'∧PlI k lc' D'∧(D'.map Prod.fst=if was then D.map Prod.fst else D.map Prod.fst++[x])∧∃ z∈D',ddH k.ep z.1=ddH k.ep x
theorem bB (hK:acf k) (hI:PlI k lc D) (hx:fW x) (hxn:acd x) (hd:0<x.d∧x.d≤k.N.length) (he:ckP k x=none) (hs:D.length+1≤1000) (h0:0 ∉ (vT k lg lc D).map Ent.g) (was:Bool) (hw:was=D.any (fun y=>decide (ddH k.ep y.1=ddH k.ep x))) :
  FnL Tryz.prog 11 [pt k.P,acV k.ep x (some ⟨b0.v,0,none⟩) (some ⟨b0.y,0,none⟩) (some ⟨b0.p,0,none⟩) cV cY cP] (vT k lg lc D++ddL x b0) oy (fun v N=>∃ T',N=T'++ddL x b0∧afn k D x was v T'):=by
 cases was with
 | true =>
  obtain⟨y,hy,hye⟩:=List.any_eq_true.1 hw.symm;have hye' : ddH k.ep y.1=ddH k.ep x:=by simpa using hye
  have h:=abH k lg lc D x (some ⟨b0.v,0,none⟩) (some ⟨b0.y,0,none⟩) (some ⟨b0.p,0,none⟩) cV cY cP hI hx (by have:=hI.n7;omega) hy hye';have h2:=Fn.toL (Fn.drop (post':=fun v N=>v=.tuple #[.bool false,.int .i64 0]∧N=[]) h (fun v N hv=>⟨hv,rfl⟩));refine FnL.frame h2 (R:=vT k lg lc D++ddL x b0) (.refl _) (fun w1 h1 h2=>⟨fun e he=>h1 e (List.mem_append_left _ he),adK.of (fun e he=>h1 e (List.mem_append_right _ he))⟩) (fun v N hv=>?_);obtain⟨rfl,rfl⟩:=hv;exact⟨_,.refl _,_,rfl,rfl,lg,lc,D,rfl,hI,rfl,y,hy,hye'⟩
 | false =>
  have hn:∀ y∈D,ddH k.ep y.1≠ddH k.ep x:=fun y hy e=>by
   have:=List.any_eq_false.1 hw.symm y hy;simp[e] at this
  refine (acn k lg lc D x cV cY cP b0 hK hI hx hxn hd hn he hs h0).weak (fun _ h=>h) (fun v N hv=>?_);obtain⟨rfl,b,lg',lc',rfl,hI'⟩:=hv;exact⟨_,rfl,rfl,lg',lc',_,rfl,hI',by simp,(x,b),by simp,rfl⟩
theorem adD (hI:PlI k lc D) {z:Dd × Dk} (hz:z∈D):Fn Tryz.prog 14 [pt k.P,.agg (byC (ddH k.ep z.1)).toArray] (PlR k lg lc D)
  (Ex (fun s => .tuple #[dlV k.ep z.1.d (.slice (some ⟨s 0, 0, none⟩) z.1.V.length z.1.V.length) (.slice (some ⟨s 1, 0, none⟩) z.1.Y.length z.1.Y.length) (.slice (some ⟨s 2, 0, none⟩) z.1.P.length z.1.P.length) z.1.c z.1.s, .int .i64 0])
      (fun s=>[⟨s 0,24,z.1.V.flatMap zc++mkz (s 3) (zc 0)⟩,⟨s 1,24,z.1.Y.flatMap zc++mkz (s 4) (zc 0)⟩,⟨s 2,96,z.1.P.flatMap pfC++mkz (s 5) (ui 0 0)⟩]) (fun _=>True)):=by
 have hf:=hI.fit z hz;refine (adh k.p k.q k.g k.h k.f k.sec k.ns k.ep k.gM k.P (lsV lg lc (ddK k.ep D)) (ddM k.ep D) (ddH k.ep z.1) z.1 z.2 (nI _ _) (su _ _) (tV hI.dist) (List.mem_map.2 ⟨z,hz,rfl⟩) hf.v hf.y hf.p hf.vl hf.yl hf.pl).weak (fun w hw=>?_) (fun _ _ h=>h);have hd:=hw.dd hz;exact⟨hw.P,hw.M,hd.v,hd.y,hd.p⟩
end
structure Dq where
 d:Nat
 pt:Option Addr
 P:List Nat
 c:Nat
def dqF (x:Dq):List Value:=dqC x.d (.slice x.pt x.P.length x.c)
structure aex (w:World) (x:Dq):Prop where
 d:x.d<256
 P:∀ y∈x.P,y<4294967296
 r:RdE aap (.slice x.pt x.P.length x.c) x.P w
theorem ad3 {l:List Dq} {o i:Nat} {x:Dq} (h:l[i]?=some x):cut (l.flatMap dqF) (o+i*2 - o) 2=dqF x:=by
 rw[Nat.add_sub_cancel_left];exact zX (f:=dqF) (k:=2) (fun _=>rfl) h
end Sx
end
end Go.Proofs.YteibfbjpkjkejaaGreatDoor
