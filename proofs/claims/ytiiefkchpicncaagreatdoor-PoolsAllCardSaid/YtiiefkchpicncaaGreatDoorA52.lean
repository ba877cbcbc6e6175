/- Part 52 of the proof. -/
import Derived.Test.YtiiefkchpicncaaGreatDoorA50
set_option linter.unusedSimpArgs false
set_option linter.unusedVariables false
set_option maxHeartbeats 8000000
namespace Go.Proofs.YtiiefkchpicncaaGreatDoor
section
open Go Go.RowKit Go.BigFrame
namespace Sx
theorem cd {ep:Nat} {D:List (Dd × Dk)} {H:List Nat} (h:H∈sF ep D):∃ y∈D,ddH ep y.1=H:=by
 unfold sF at h;obtain⟨j,_,h1⟩:=List.mem_flatMap.1 h;obtain⟨y,hy,_,e⟩:=eJ (List.mem_of_mem_take h1);exact⟨y,hy,e⟩
theorem ab5 {ep:Nat} {D:List (Dd × Dk)} {H:List Nat} (h:H∈sF ep D):(∀ b∈H,b<256)∧H.length=32:=by
 obtain⟨y,_,rfl⟩:=cd h;exact⟨ut _ _,yP _ _⟩
theorem aa2 {p q g h:Nat} {f sec:Int} {N:List (Nat × Nat)} (hs:v6 p q g h f sec N=true):3*f+1≤(N.length:Int):=by
 unfold v6 at hs;simp only[Bool.and_eq_true,decide_eq_true_eq] at hs;exact hs.1.1.1.1.1.2
section
variable {P:Program} {w0:World} {gs:List Nat} {K:List (Nat × Value)} {L:List Ent}
theorem WO.skipU {n:Nat} {ops rest:List Oper} {Q:Exit→Act→World→Prop} {d j t:Nat} {want:Bool} {o' : Oper} {op:Op} {ty:TypeId} {pos:String} {after:Array Edge} (k:WO P w0 gs n ops Q ((d,undef)::K) L rest) (ho:nth ops j=some o') (ht:o'.dst=some t) (hl:lk K t=some undef) (hd:Nat.blt d n=true:=by rfl) :
  WO P w0 gs n ops Q K L (⟨some d,op,ty,pos,after,some (j,want)⟩::rest):=by
 intro a w hdf hsz hk hme;have hat:=hk t undef hl;have hy:yielded ops.toArray a.tmps j=none:=by
  rw[vF] at ho;unfold yielded;simp[ho,ht,hat,undef]
 refine wpList_step fun F hF=>?_;rw[if_neg (by unfold Region.wanted;simp[hy])];have hd' : d<n:=by simpa [Nat.blt_eq] using hd
 exact hF _ _ (k _ _ (by rw[put_defers];exact hdf) (by rw[zO];exact hsz) (hk.put Om undef) hme)
theorem bs (b:Bool) (w:World):(binOp .neq 4 (.bool b) (.bool b)).run Tryz.prog w=.ok (.bool false) w:=by cases b<;>kernel_rfl
theorem adK (x y:Operand) (a b:Bool) (w:World):(eqGuard .neq 4 x y (.bool a) (.bool b)).run Tryz.prog w=.ok () w:=by kernel_rfl
theorem aaF {x y:Operand} {yt ty:TypeId} {b:Bool} (hx:ev K x=some (.bool b)) (hy:ev K y=some (.bool b)):Does Tryz.prog w0 gs K L (.binOp .neq 4 x y yt) ty (.bool false):=by
 intro ac w hk _ o ho _;simp only[execOp,ho,hk.eval hx,hk.eval hy,Sem.run_bind,adK,Result.andThen_ok,bs,Sem.run_pure]
end
section
variable (k:Pl) (lg lc:Nat→Nat) (D:List (Dd × Dk))
theorem cL (hI:PlI k lc D) (hf1 : -9223372036854775808≤(k.N.length:Int) - k.f) (hf2:(k.N.length:Int) - k.f≤9223372036854775807) (hb:¬ (k.N.length:Int) - k.f≤((sF k.ep D).length:Int)) :
  Fn Tryz.prog 14 [pt k.P] (PlR k lg lc D) (Is (.tuple #[.slice none 0 0,.bool false])) :=
 Fn.drop (dt k lg lc D hI hf1 hf2) (fun v N hv=>hv.1 (decide_eq_false hb))
theorem ax (hI:PlI k lc D) (hf1 : -9223372036854775808≤(k.N.length:Int) - k.f) (hf2:(k.N.length:Int) - k.f≤9223372036854775807) (hb:(k.N.length:Int) - k.f≤((sF k.ep D).length:Int)) (hp:0<(sF k.ep D).length) :
  Fn Tryz.prog 14 [pt k.P] (PlR k lg lc D) (Ex (fun s=>.tuple #[.slice (some ⟨s 0,0,none⟩) (sF k.ep D).length (sF k.ep D).length,.bool true]) (fun s=>[⟨s 0,53,(sF k.ep D).flatMap byC++mkz (s 1) (byC (List.replicate 32 0))⟩]) (fun _=>True)) :=
 (dt k lg lc D hI hf1 hf2).weak (fun _ h=>h) (fun v N hv=>by
  obtain⟨g,c,rfl,rfl⟩:=hv.2 (decide_eq_true hb);refine⟨fun i=>if i=0 then g else c - (sF k.ep D).length,?_,?_,trivial⟩
  ·unfold oM;rw[yd hp];rfl
  ·unfold lW;rw[ye hp];rfl)
end
end Sx
end
section
open Go Go.RowKit Go.BigFrame
namespace Sx
attribute [local irreducible] DQ WC WO WX y9 wd
structure Sa where
 i:Nat
 gD:Nat
 cD:Nat
 T:List (Dd × Dk)
 lg:Nat→Nat
 lc:Nat→Nat
 D:List (Dd × Dk)
structure afz (k:Pl) (n:Nat) (s:Sa):Prop where
 i:s.i≤n
 t:s.T.length≤s.i
 e:s.T.map Prod.fst=s.D.map Prod.fst
 I:PlI k s.lc s.D
 r:0<s.T.length→s.T.length≤s.cD∧s.cD<9223372036854775808
def saE (k:Pl) (s:Sa):List Ent:=qo k.ep s.gD s.cD s.T++(ddB s.T++y9 k s.lg s.lc s.D)
theorem acX {k:Pl} {i gD cD:Nat} {T:List (Dd × Dk)} {lg lc:Nat→Nat} {D:List (Dd × Dk)} (h:0<T.length):(⟨gD,47,T.flatMap (ddC k.ep)++mkz (cD - T.length) dzC⟩ : Ent)∈saE k ⟨i,gD,cD,T,lg,lc,D⟩:=by
 unfold saE qo;rw[ye h];exact List.mem_append_left _ (List.mem_singleton.2 rfl)
theorem adx {k:Pl} {s:Sa} {y:Dd × Dk} (hy:y∈s.T) {e:Ent} (he:e∈ddL y.1 y.2):e∈saE k s:=List.mem_append_right _ (List.mem_append_left _ (List.mem_flatMap.2 ⟨y,List.mem_reverse.2 hy,he⟩))
theorem adk {k:Pl} {s:Sa} {e:Ent} (he:e∈y9 k s.lg s.lc s.D):e∈saE k s:=List.mem_append_right _ (List.mem_append_right _ he)
section
variable (p q g h0 a:Nat) (f sec:Int) (pk:Option Addr) (ck:Nat) (ks:List (Nat × Nat)) (ep:Nat) (pl:Option Addr) (cl:Nat) (l:List Dq)
theorem abn (hp:p<zd) (hq:q<zd) (hg:g<zd) (hh0:h0<zd) (ha:a<zd) (hks:yz ks)
    (hf1 : -9223372036854775808≤f) (hf2:f≤9223372036854775807) (hs1 : -9223372036854775808≤sec) (hs2:sec≤9223372036854775807) (hep:ep<18446744073709551616) :
    Fn Tryz.prog 3 [csV p q g h0 a f sec (.slice pk ks.length ck),.int .u64 (ep:Int),.slice pl l.length cl] (fun w=>RdF yf (.slice pk ks.length ck) ks w∧RdE dqF (.slice pl l.length cl) l w∧(∀ x∈l,afp w x)∧oF w) (Is (.bool true)):=by
  have hC:=adW p q g h0 a f sec pk ck ks hp hq hg hh0 ha hks hf1 hf2 hs1 hs2;have hL:=abH;refine Fn.enter Tryz.func3 rfl rfl rfl ?_;intro w hw;obtain⟨w1,w2,w4,w3⟩:=hw
  repeat (first|refine Tw ?_|(refine Tm ?_;intro _)|exact Tz)
  rename_i gz;refine WO.callsL (hc:=Fn.toL hC) (hp:=.nil) (hR:=fun wx hm=>w1.mod hm.mod) (k:=fun v N hv=>?_);cases hcb:nn p q g a f sec ks with
  | false =>
    rw[hcb] at hv;obtain⟨cs,rfl,hl,h1⟩:=hv.2 rfl;refine WO.flip ?_;simp only[List.cons_append,List.nil_append]
    repeat (first|refine Ta ?_|(refine Tm ?_;intro _)|refine WO.acall (hc:=hL) (k:=?_)|refine WO.stores (zz (vs:=cs) (cs':=cs) (hl:=hl) (h1:=h1) (hc:=zU (by rw[hl];rfl)) (hle:=by rw[hl];rfl)) ?_|refine Tc ?_|exact Tz)
    done
  | true =>
  rw[hcb] at hv;obtain⟨gN,cN,rfl,rfl,hNl,hcN⟩:=hv.1 rfl;have hcs:=dJ hcb;simp only[List.cons_append,List.nil_append]
  by_cases hl12:12<l.length
  · repeat (first|refine WO.does (tN rfl rfl Om) ?_|refine Ta ?_|(refine Tm ?_;intro _)|refine WO.acall (hc:=hL) (k:=?_)|refine Tc ?_|exact Tz)
    done
  obtain⟨hs1',hs7,hsq,hs0,hs2',hs5,_,_⟩:=vu hcs.set;have h3f0:=aa2 hcs.set;obtain⟨F,rfl⟩ : ∃ F:Nat,f=(F:Int):=⟨f.toNat,by omega⟩;obtain⟨m,rfl⟩ : ∃ m:Nat,sec=(m:Int):=⟨sec.toNat,by omega⟩;have hNl2:=ub p g a ks;rw[hNl2] at h3f0;have hn:0<ks.length:=by omega
  have hq0:0<q:=by omega
  have hNew:=afe p q g (exN p g a) (F:Int) (m:Int) (some ⟨gN,0,none⟩) cN (csN p g a ks) ep hp hq hg (tz hp) (jl hp) Om hf1 hf2 hs1 hs2 hep hcs.set;have hNok:=jl (p:=p) (g:=g) (a:=a) (ks:=ks) hp;rw[hNl2] at hNew ⊢
  repeat (first|refine WO.does (y6 rfl rfl Om) ?_|refine Ta ?_|(refine Tm ?_;intro _)|refine Tc ?_|exact Tz)
  refine WO.callsL (hc:=Fn.toL hNew) (hp:=.nil) (hR:=fun wx hm=>RdF.ownO (Hs.sg hm) hNl2) (k:=fun v N' hv=>?_);obtain⟨k,rfl,rfl,hO⟩:=hv;obtain rfl:=hO.ep;refine WO.flip ?_;simp only[List.cons_append,List.nil_append]
  repeat (first|refine WO.does (zB rfl rfl rfl) ?_|refine Ta ?_|(refine Tm ?_;intro _)|refine Tc ?_|exact Tz)
  rename_i gS;have hI0:PlI k (fun _=>0) []:=PlI.nil k (by rw[hO.N];omega)
  refine WC.loopI (σ:=Sa) (afz k l.length) (fun s=>[(1,.int .u64 (k.ep:Int)),(2,.slice pl l.length cl),(3,Sx.pt gz),(7,Sx.pt gS),(9,Sx.pt k.P),(11,pU s.gD s.cD s.T),(12,.int .i64 (s.i:Int))])
    (fun s=>⟨gz,29,csC p q g h0 a (F:Int) (m:Int) (.slice pk ks.length ck)⟩::⟨gS,33,stC p q g (exN p g a) (F:Int) (m:Int) (.slice (some ⟨gN,0,none⟩) ks.length cN)⟩::⟨gN,96,(csN p g a ks).flatMap yf++mkz (cN - ks.length) (y7 0 0)⟩::saE k s) (fun s=>l.length - s.i) ⟨0,0,0,[],fun _=>0,fun _=>0,[]⟩ (fun s hi=>?_) ⟨Nat.zero_le _,Nat.le_refl _,rfl,hI0,fun h=>absurd h (by simp)⟩ (hl:=by repeat (first|exact Lle.left'|refine Lle.c ?_|refine Lle.skp ?_))
  obtain⟨i,gD,cD,T,lg,lc,D⟩:=s;obtain⟨hi,hTi,hTD,hI,hr⟩:=hi;dsimp only at hi hTi hTD hI hr ⊢
  by_cases hlt:i<l.length
  · obtain⟨x,hx⟩ : ∃ x,l[i]?=some x:=⟨_,List.getElem?_eq_getElem hlt⟩;have hxk:=w4 x (List.mem_of_getElem? hx);obtain⟨bl,ol,rfl,_,hsl⟩:=RdE.get w2 hx;have hcx:=aeq (o:=ol) hx;have hDe0:=abd p q g h0 a F m pk ck ks (some ⟨gN,0,none⟩) cN k.ep x.d x.pt x.c x.P hcs hn hp hq hg hh0 ha hks hxk.P hxk.d hep;have hVl:=acz (p:=p) (q:=q) (g:=g) (a:=a) (F:=F) (m:=m) (ks:=ks) (ep:=k.ep) (d:=x.d) (P:=x.P);have hYl:=abb (p:=p) (q:=q) (g:=g) (a:=a) (F:=F) (m:=m) (ks:=ks) (ep:=k.ep) (d:=x.d) (P:=x.P);have hPl:=abU (p:=p) (q:=q) (g:=g) (a:=a) (F:=F) (m:=m) (ks:=ks) (ep:=k.ep) (d:=x.d) (P:=x.P);have hfit:=aby (p:=p) (q:=q) (g:=g) (a:=a) (F:=F) (m:=m) (ks:=ks) (ep:=k.ep) (d:=x.d) (P:=x.P) hn Om;have hnum:=ab3 (p:=p) (q:=q) (g:=g) (a:=a) (F:=F) (m:=m) (ks:=ks) (ep:=k.ep) (d:=x.d) (P:=x.P) hp hq hq0;have hxd:=aeH (p:=p) (q:=q) (g:=g) (a:=a) (F:=F) (m:=m) (ks:=ks) (ep:=k.ep) (d:=x.d) (P:=x.P) hn;have hxc:=aea (ep:=k.ep) (d:=x.d) (P:=x.P) hcs hn;generalize dqX p q g a F m ks k.ep x.d x.P=X at *;generalize csN p g a ks=N at *
    have hDe:Fn Tryz.prog 10 [csV p q g h0 a (F:Int) (m:Int) (.slice pk ks.length ck),stV p q g (exN p g a) (F:Int) (m:Int) (.slice (some ⟨gN,0,none⟩) ks.length cN),.int .u64 (k.ep:Int),dqV x.d (.slice x.pt x.P.length x.c)] (fun w=>RdF yf (.slice pk ks.length ck) ks w∧RdF yf (.slice (some ⟨gN,0,none⟩) ks.length cN) N w∧RdE aag (.slice x.pt x.P.length x.c) x.P w)
      (Ex (fun s=>adc k.ep X (some ⟨s 0,0,none⟩) (some ⟨s 1,0,none⟩) (some ⟨s 2,0,none⟩) X.V.length X.Y.length X.P.length) (fun s=>ddL X ⟨s 0,s 1,s 2,0,0,0⟩) (fun _=>True)):=by
      rw[hVl,hYl,hPl];exact hDe0
    clear hDe0
    have hTc : T.length ≤ cD := by rcases Nat.eq_zero_or_pos T.length with h | h; · omega
                                   · exact (hr h).1
    obtain⟨pT,cT,eT,eT2,eT3⟩:=iZ (g:=gD) hTc;have eT' : 0<T.length→pU gD cD T=.slice (some ⟨gD,0,none⟩) T.length cD:=fun h=>yd h
    repeat (first|refine Tw ?_|(refine Tm ?_;intro _)|exact Tz)
    refine WC.dT rfl Om ?_
    repeat (first|refine Tw ?_|(refine Tm ?_;intro _)|exact Tz)
    refine WC.adraw 9 (k:=?_)
    iterate 5 (first|refine Da ?_|refine Dc ?_)
    refine DQ.does (fun s _=>zc (o':=ol+i*2) rfl rfl hlt rfl) Dp.const ?_;refine DQ.does (fun s _=>zm (vs:=dqF x) (hs:=hsl) (hle:=Nat.le_add_right _ _) (hc:=hcx)) Dp.const ?_;refine DQ.acallX (hc:=hDe) (hR:=fun wx hm=>⟨w1.mod hm.mod,RdF.ownO (Hs.sg hm) hNl2,hxk.r.mod hm.mod⟩) (k:=?_);refine Da ?_;refine DQ.anil (k:=?_);intro sx _
    try simp only[List.map_cons,List.map_nil,List.cons_append,List.nil_append]
    generalize sx 7 0=gV;generalize sx 7 1=gY;generalize sx 7 2=gP;generalize sx 8 0=g13;simp only[ddL,List.map_cons,List.map_nil,List.cons_append,List.nil_append]
    repeat (first|refine Tw ?_|(refine Tm ?_;intro _)|exact Tz)
    rw[eT]
    refine WC.loopI (σ:=Nat × Bool × Bool) (fun s=>s.1≤T.length∧s.2.1=(T.take s.1).any (fun y=>decide (ddH k.ep y.1=ddH k.ep X))) (fun s=>[(1,.int .u64 (k.ep:Int)),(2,.slice (some ⟨bl,ol,none⟩) l.length cl),(3,Sx.pt gz),(7,Sx.pt gS),(9,Sx.pt k.P),(11,.slice pT T.length cT),(12,.int .i64 (i:Int)),(13,Sx.pt g13),(14,.bool s.2.1),(15,.bool s.2.2),(16,.int .i64 (s.1:Int))])
      (fun _=>⟨g13,47,ddC k.ep (X,⟨gV,gY,gP,0,0,0⟩)⟩::⟨gV,24,X.V.flatMap zb++mkz 0 (zb 0)⟩::⟨gY,24,X.Y.flatMap zb++mkz 0 (zb 0)⟩::⟨gP,86,X.P.flatMap pfC++mkz 0 (y7 0 0)⟩::⟨gz,29,csC p q g h0 a (F:Int) (m:Int) (.slice pk ks.length ck)⟩::⟨gS,33,stC p q g (exN p g a) (F:Int) (m:Int) (.slice (some ⟨gN,0,none⟩) ks.length cN)⟩::⟨gN,96,N.flatMap yf++mkz (cN - ks.length) (y7 0 0)⟩::saE k ⟨i,gD,cD,T,lg,lc,D⟩) (fun s=>T.length - s.1) (0,false,true) (fun s hi2=>?_) ⟨Nat.zero_le _,rfl⟩ (hl:=by repeat (first|exact Lle.left'|refine Lle.c ?_|refine Lle.skp ?_))
    obtain⟨kk,was,oth⟩:=s;obtain⟨hk1,hk2⟩:=hi2
    try dsimp only at hk1 hk2 ⊢
    by_cases hkl:kk<T.length
    · obtain⟨y,hy⟩ : ∃ y,T[kk]?=some y:=⟨_,List.getElem?_eq_getElem hkl⟩;have hym:=List.mem_of_getElem? hy;have hTpos:0<T.length:=by omega
      have e9:=(eT' hTpos).symm.trans eT;injection e9 with e9a e9b e9c
      subst e9a e9c;have hsT:Hs (⟨g13,47,ddC k.ep (X,⟨gV,gY,gP,0,0,0⟩)⟩::⟨gV,24,X.V.flatMap zb++mkz 0 (zb 0)⟩::⟨gY,24,X.Y.flatMap zb++mkz 0 (zb 0)⟩::⟨gP,86,X.P.flatMap pfC++mkz 0 (y7 0 0)⟩::⟨gz,29,csC p q g h0 a (F:Int) (m:Int) (.slice pk ks.length ck)⟩::⟨gS,33,stC p q g (exN p g a) (F:Int) (m:Int) (.slice (some ⟨gN,0,none⟩) ks.length cN)⟩::⟨gN,96,N.flatMap yf++mkz (cN - ks.length) (y7 0 0)⟩::saE k ⟨i,gD,cD,T,lg,lc,D⟩) gD 47 (T.flatMap (ddC k.ep)++mkz (cD - T.length) dzC):=Hs.of_mem (by repeat (first|exact acX hTpos|apply List.mem_cons_of_mem));have hcy:cut (T.flatMap (ddC k.ep)++mkz (cD - T.length) dzC) (0+kk*13) 13=ddC k.ep y:=by rw[Nat.zero_add];exact vT (fun x _=>rfl) hy
      have hcd:(T.flatMap (ddC k.ep)++mkz (cD - T.length) dzC)[kk*13+1]?=some (.int .u8 (y.1.d:Int)):=by
        have h9:=vp (j:=1) (v:=.int .u8 (y.1.d:Int)) hcy rfl;rwa [Nat.zero_add] at h9
      obtain⟨z,hzD,hzy⟩ : ∃ z∈D,z.1=y.1:=by
        have:y.1∈D.map Prod.fst:=by rw[← hTD];exact List.mem_map.2 ⟨y,hym,rfl⟩
        obtain⟨z,h1,h2⟩:=List.mem_map.1 this;exact⟨z,h1,h2⟩
      have hyf:=hI.fit z hzD;have hyd:=hI.d1 z hzD;have h7:=hI.n7;rw[hzy] at hyf hyd;have hHy:=u9 k.ep y.1.d y.1.c y.1.s (some ⟨y.2.v,0,none⟩) (some ⟨y.2.y,0,none⟩) (some ⟨y.2.p,0,none⟩) y.1.V.length y.1.Y.length y.1.P.length y.1.V y.1.Y y.1.P Om hyf.v hyf.y hyf.p (by have:=hyf.vl;omega) (by have:=hyf.yl;omega) (by have:=hyf.pl;omega);have hHX:=u9 k.ep X.d X.c X.s (some ⟨gV,0,none⟩) (some ⟨gY,0,none⟩) (some ⟨gP,0,none⟩) X.V.length X.Y.length X.P.length X.V X.Y X.P Om hfit.v hfit.y hfit.p Om Om Om;have hrow:∀ wx,Mr w [] (⟨g13,47,ddC k.ep (X,⟨gV,gY,gP,0,0,0⟩)⟩::⟨gV,24,X.V.flatMap zb++mkz 0 (zb 0)⟩::⟨gY,24,X.Y.flatMap zb++mkz 0 (zb 0)⟩::⟨gP,86,X.P.flatMap pfC++mkz 0 (y7 0 0)⟩::⟨gz,29,csC p q g h0 a (F:Int) (m:Int) (.slice pk ks.length ck)⟩::⟨gS,33,stC p q g (exN p g a) (F:Int) (m:Int) (.slice (some ⟨gN,0,none⟩) ks.length cN)⟩::⟨gN,96,N.flatMap yf++mkz (cN - ks.length) (y7 0 0)⟩::saE k ⟨i,gD,cD,T,lg,lc,D⟩) wx→RdF zb (.slice (some ⟨y.2.v,0,none⟩) y.1.V.length y.1.V.length) y.1.V wx∧RdF zb (.slice (some ⟨y.2.y,0,none⟩) y.1.Y.length y.1.Y.length) y.1.Y wx∧RdF pfC (.slice (some ⟨y.2.p,0,none⟩) y.1.P.length y.1.P.length) y.1.P wx:=fun wx hm=>by
        have hA:=adb.of (x:=y.1) (b:=y.2) (cV:=y.1.V.length) (cY:=y.1.Y.length) (cP:=y.1.P.length) (w:=wx) (fun e he=>hm.ok e (by repeat (first|exact adx hym he|apply List.mem_cons_of_mem)));exact⟨hA.v,hA.y,hA.p⟩
      have hrowX:∀ wx,Mr w [] (⟨g13,47,ddC k.ep (X,⟨gV,gY,gP,0,0,0⟩)⟩::⟨gV,24,X.V.flatMap zb++mkz 0 (zb 0)⟩::⟨gY,24,X.Y.flatMap zb++mkz 0 (zb 0)⟩::⟨gP,86,X.P.flatMap pfC++mkz 0 (y7 0 0)⟩::⟨gz,29,csC p q g h0 a (F:Int) (m:Int) (.slice pk ks.length ck)⟩::⟨gS,33,stC p q g (exN p g a) (F:Int) (m:Int) (.slice (some ⟨gN,0,none⟩) ks.length cN)⟩::⟨gN,96,N.flatMap yf++mkz (cN - ks.length) (y7 0 0)⟩::saE k ⟨i,gD,cD,T,lg,lc,D⟩) wx→RdF zb (.slice (some ⟨gV,0,none⟩) X.V.length X.V.length) X.V wx∧RdF zb (.slice (some ⟨gY,0,none⟩) X.Y.length X.Y.length) X.Y wx∧RdF pfC (.slice (some ⟨gP,0,none⟩) X.P.length X.P.length) X.P wx:=fun wx hm=>⟨RdF.ownO (Hs.sg hm) rfl,RdF.ownO (Hs.sg hm) rfl,RdF.ownO (Hs.sg hm) rfl⟩;have hadd2:IntKind.i64.wrap ((kk:Int)+1)=((kk+1:Nat):Int):=zn Om Om Om;have hk4:(T.take (kk+1)).any (fun y=>decide (ddH k.ep y.1=ddH k.ep X))=(was || decide (ddH k.ep y.1=ddH k.ep X)):=by rw[List.take_add_one,hy,List.any_append,← hk2];simp
      cases was
      · have hk3:decide (ddH k.ep y.1=ddH k.ep X)=(T.take (kk+1)).any (fun y=>decide (ddH k.ep y.1=ddH k.ep X)):=by rw[hk4];rfl
        cases oth
        · repeat (first|refine Tw ?_|(refine Tm ?_;intro _)|exact Tz)
          refine WC.dT rfl Om ?_
          repeat (first|refine Tw ?_|(refine Tm ?_;intro _)|exact Tz)
          refine WC.adraw 11 (k:=?_)
          iterate 4 (first|refine Da ?_|refine Dc ?_)
          refine DQ.does (fun s _=>zc (o':=0+kk*13) rfl rfl hkl rfl) Dp.const ?_;refine DQ.does (fun s _=>zH (vs:=ddC k.ep y) (hm:=hsT) (hc:=hcy)) Dp.const ?_;refine DQ.acallR (hc:=hHy) (hR:=hrow) (k:=?_);refine DQ.does (fun s _=>zH (vs:=ddC k.ep (X,⟨gV,gY,gP,0,0,0⟩)) (hc:=rfl)) Dp.const ?_;refine DQ.acallR (hc:=hHX) (hR:=hrowX) (k:=?_);refine DQ.does (fun s _=>mh (ut k.ep y.1) (ut k.ep X) (yP k.ep y.1) (yP k.ep X) rfl rfl rfl) Dp.const ?_
          iterate 1 (first|refine Da ?_|refine Dc ?_)
          refine DQ.anil (k:=?_);intro sx3 _
          try simp only[List.map_cons,List.map_nil,List.cons_append,List.nil_append]
          repeat (first|refine Tw ?_|(refine Tm ?_;intro _)|exact Tz)
          refine WC.adraw 11 (k:=?_)
          iterate 11 (first|refine Da ?_|refine Dc ?_)
          refine DQ.anil (k:=?_);intro sx4 _
          try simp only[List.map_cons,List.map_nil,List.cons_append,List.nil_append]
          repeat (first|refine WO.does (zi rfl rfl hadd2) ?_|refine Ta ?_|(refine Tm ?_;intro _)|refine Tc ?_|exact Tz)
          exact WX.metI (kk+1,decide (ddH k.ep y.1=ddH k.ep X),false) (hl:=by repeat (first|exact Lle.left'|refine Lle.c ?_|refine Lle.skp ?_)) (hs:=⟨⟨by show kk+1≤T.length;omega,hk3⟩,by show T.length - (kk+1)<T.length - kk;omega⟩)
        · repeat (first|refine Tw ?_|(refine Tm ?_;intro _)|exact Tz)
          refine WC.dT rfl Om ?_
          repeat (first|refine Tw ?_|(refine Tm ?_;intro _)|exact Tz)
          refine WC.adraw 11 (k:=?_)
          iterate 4 (first|refine Da ?_|refine Dc ?_)
          refine DQ.does (fun s _=>zc (o':=0+kk*13) rfl rfl hkl rfl) Dp.const ?_;refine DQ.does (fun s _=>zH (vs:=ddC k.ep y) (hm:=hsT) (hc:=hcy)) Dp.const ?_;refine DQ.acallR (hc:=hHy) (hR:=hrow) (k:=?_);refine DQ.does (fun s _=>zH (vs:=ddC k.ep (X,⟨gV,gY,gP,0,0,0⟩)) (hc:=rfl)) Dp.const ?_;refine DQ.acallR (hc:=hHX) (hR:=hrowX) (k:=?_);refine DQ.does (fun s _=>mh (ut k.ep y.1) (ut k.ep X) (yP k.ep y.1) (yP k.ep X) rfl rfl rfl) Dp.const ?_
          iterate 1 (first|refine Da ?_|refine Dc ?_)
          refine DQ.anil (k:=?_);intro sx3 _
          try simp only[List.map_cons,List.map_nil,List.cons_append,List.nil_append]
          repeat (first|refine Tw ?_|(refine Tm ?_;intro _)|exact Tz)
          refine WC.adraw 11 (k:=?_)
          iterate 4 (first|refine Da ?_|refine Dc ?_)
          refine DQ.does (fun s _=>zc (o':=0+kk*13) rfl rfl hkl rfl) Dp.const ?_;refine Dc ?_;refine DQ.does (fun s _=>zJ (hm:=hsT) (hc:=hcd)) Dp.const ?_
          iterate 4 (first|refine Da ?_|refine Dc ?_)
          refine DQ.anil (k:=?_);intro sx4 _
          try simp only[List.map_cons,List.map_nil,List.cons_append,List.nil_append]
          repeat (first|refine WO.does (zi rfl rfl hadd2) ?_|refine Ta ?_|(refine Tm ?_;intro _)|refine Tc ?_|exact Tz)
          exact WX.metI (kk+1,decide (ddH k.ep y.1=ddH k.ep X),decide (((y.1.d:Nat):Int)≠((X.d:Nat):Int))) (hl:=by repeat (first|exact Lle.left'|refine Lle.c ?_|refine Lle.skp ?_)) (hs:=⟨⟨by show kk+1≤T.length;omega,hk3⟩,by show T.length - (kk+1)<T.length - kk;omega⟩)
      · have hk3:true=(T.take (kk+1)).any (fun y=>decide (ddH k.ep y.1=ddH k.ep X)):=by rw[hk4];rfl
        cases oth
        · repeat (first|refine Tw ?_|(refine Tm ?_;intro _)|exact Tz)
          refine WC.dT rfl Om ?_
          repeat (first|refine Tw ?_|(refine Tm ?_;intro _)|exact Tz)
          refine WC.adraw 11 (k:=?_)
          iterate 11 (first|refine Da ?_|refine Dc ?_)
          refine DQ.anil (k:=?_);intro sx3 _
          try simp only[List.map_cons,List.map_nil,List.cons_append,List.nil_append]
          repeat (first|refine Tw ?_|(refine Tm ?_;intro _)|exact Tz)
          refine WC.adraw 11 (k:=?_)
          iterate 11 (first|refine Da ?_|refine Dc ?_)
          refine DQ.anil (k:=?_);intro sx4 _
          try simp only[List.map_cons,List.map_nil,List.cons_append,List.nil_append]
          repeat (first|refine WO.does (zi rfl rfl hadd2) ?_|refine Ta ?_|(refine Tm ?_;intro _)|refine Tc ?_|exact Tz)
          exact WX.metI (kk+1,true,false) (hl:=by repeat (first|exact Lle.left'|refine Lle.c ?_|refine Lle.skp ?_)) (hs:=⟨⟨by show kk+1≤T.length;omega,hk3⟩,by show T.length - (kk+1)<T.length - kk;omega⟩)
        · repeat (first|refine Tw ?_|(refine Tm ?_;intro _)|exact Tz)
          refine WC.dT rfl Om ?_
          repeat (first|refine Tw ?_|(refine Tm ?_;intro _)|exact Tz)
          refine WC.adraw 11 (k:=?_)
          iterate 11 (first|refine Da ?_|refine Dc ?_)
          refine DQ.anil (k:=?_);intro sx3 _
          try simp only[List.map_cons,List.map_nil,List.cons_append,List.nil_append]
          repeat (first|refine Tw ?_|(refine Tm ?_;intro _)|exact Tz)
          refine WC.adraw 11 (k:=?_)
          iterate 4 (first|refine Da ?_|refine Dc ?_)
          refine DQ.does (fun s _=>zc (o':=0+kk*13) rfl rfl hkl rfl) Dp.const ?_;refine Dc ?_;refine DQ.does (fun s _=>zJ (hm:=hsT) (hc:=hcd)) Dp.const ?_
          iterate 4 (first|refine Da ?_|refine Dc ?_)
          refine DQ.anil (k:=?_);intro sx4 _
          try simp only[List.map_cons,List.map_nil,List.cons_append,List.nil_append]
          repeat (first|refine WO.does (zi rfl rfl hadd2) ?_|refine Ta ?_|(refine Tm ?_;intro _)|refine Tc ?_|exact Tz)
          exact WX.metI (kk+1,true,decide (((y.1.d:Nat):Int)≠((X.d:Nat):Int))) (hl:=by repeat (first|exact Lle.left'|refine Lle.c ?_|refine Lle.skp ?_)) (hs:=⟨⟨by show kk+1≤T.length;omega,hk3⟩,by show T.length - (kk+1)<T.length - kk;omega⟩)
    · have hkk:kk=T.length:=by omega
      subst hkk;rw[List.take_length] at hk2
      repeat (first|refine Tw ?_|(refine Tm ?_;intro _)|exact Tz)
      refine WC.dF rfl Om ?_
      repeat (first|refine Tw ?_|(refine Tm ?_;intro _)|exact Tz)
      have hK:ac0 k:=⟨by rw[hO.p];exact hp,by rw[hO.q];exact hq,by rw[hO.g];exact hg,by rw[hO.h];exact tz hp,by rw[hO.N];exact hNok,by rw[hO.f];exact hf1,by rw[hO.f];exact hf2,by rw[hO.sec];exact hs1,by rw[hO.sec];exact hs2⟩;have hwas:was=D.any (fun y=>decide (ddH k.ep y.1=ddH k.ep X)):=by
        have e1:∀ L:List (Dd × Dk),L.any (fun y=>decide (ddH k.ep y.1=ddH k.ep X))=(L.map Prod.fst).any (fun y=>decide (ddH k.ep y=ddH k.ep X)):=fun L=>by rw[List.any_map];rfl
        rw[hk2,e1,e1,hTD]
      refine WO.mine (fun hmn=>?_);have h00:0 ∉ (y9 k lg lc D).map Ent.g:=fun hm=>by
        obtain⟨e,he,h1⟩:=List.mem_map.1 hm;have h2:=(hmn e (by repeat (first|exact adk (s:=⟨i,gD,cD,T,lg,lc,D⟩) he|apply List.mem_cons_of_mem))).resolve_right (by simp);have h3:0<w.heap.size:=pF (w3 0 ci rfl);omega
      clear hmn;have hDl:D.length=T.length:=by have:=congrArg List.length hTD;rw[List.length_map,List.length_map] at this;exact this.symm
      have hPA:=cZ k lg lc D X X.V.length X.Y.length X.P.length ⟨gV,gY,gP,0,0,0⟩ hK hI hfit hnum (by rw[hO.N];exact hxd) (by
        unfold ckP;rw[hO.p,hO.q,hO.g,hO.h,hO.f,hO.sec,hO.N];exact hxc) Om h00 was hwas
      refine WO.callsT (hc:=hPA) (T:=y9 k lg lc D) (hq:=fun v N hv=>hv) (Tl.eq (by unfold saE;repeat (first|exact Tl.here|apply Tl.cons|apply Tl.app))) (.cons Pk.a (.cons Pk.a (.cons Pk.a .nil))) (fun wx hm=>w3.mod hm.mod (by simp)) (fun v T' hv=>?_);obtain⟨rfl,lg2,lc2,D2,rfl,hI2,hD2,z,hzD,hze⟩:=hv;simp only[List.cons_append,List.nil_append,List.append_assoc];have h72:=hI2.n7;have hHX:=u9 k.ep X.d X.c X.s (some ⟨gV,0,none⟩) (some ⟨gY,0,none⟩) (some ⟨gP,0,none⟩) X.V.length X.Y.length X.P.length X.V X.Y X.P Om hfit.v hfit.y hfit.p Om Om Om;have hGe:=aeU k lg2 lc2 D2 hI2 hzD;rw[hze] at hGe
      repeat (first|refine Ta ?_|(refine Tm ?_;intro _)|refine WO.acallR (hc:=hHX) (hR:=fun wx hm=>⟨RdF.ownO (Hs.sg hm) rfl,RdF.ownO (Hs.sg hm) rfl,RdF.ownO (Hs.sg hm) rfl⟩) (k:=?_)|refine Tc ?_|exact Tz)
      refine WO.acallX (hc:=hGe) (hR:=fun wx hm=>fun e he=>hm.ok e (by repeat (first|exact List.mem_append_right _ (List.mem_append_right _ he)|apply List.mem_cons_of_mem))) (k:=fun s _=>?_);generalize s 0=xV;generalize s 1=xY;generalize s 2=xP;generalize s 3=rV;generalize s 4=rY;generalize s 5=rP;simp only[List.cons_append,List.nil_append];have hzf:=hI2.fit z hzD;have hzd:=hI2.d1 z hzD;have hHz:=u9 k.ep z.1.d z.1.c z.1.s (some ⟨xV,0,none⟩) (some ⟨xY,0,none⟩) (some ⟨xP,0,none⟩) z.1.V.length z.1.Y.length z.1.P.length z.1.V z.1.Y z.1.P Om hzf.v hzf.y hzf.p (by have:=hzf.vl;omega) (by have:=hzf.yl;omega) (by have:=hzf.pl;omega)
      repeat (first|refine Tw ?_|(refine Tm ?_;intro _)|exact Tz)
      refine WC.adraw 18 (k:=?_)
      iterate 2 (first|refine Da ?_|refine Dc ?_)
      refine DQ.does (fun s _=>adU rfl rfl) Dp.const ?_
      iterate 2 (first|refine Da ?_|refine Dc ?_)
      refine DQ.does (fun s _=>zB rfl rfl rfl) Dp.const ?_
      iterate 3 (first|refine Da ?_|refine Dc ?_)
      refine DQ.does (fun s _=>zB rfl rfl rfl) Dp.const ?_
      iterate 3 (first|refine Da ?_|refine Dc ?_)
      refine DQ.acallR (hc:=hHz) (hR:=fun wx hm=>⟨RdF.ownO (Hs.sg hm) rfl,RdF.ownO (Hs.sg hm) rfl,RdF.ownO (Hs.sg hm) rfl⟩) (k:=?_);refine DQ.does (fun s _=>zH (vs:=ddC k.ep (X,⟨gV,gY,gP,0,0,0⟩)) (hc:=rfl)) Dp.const ?_;refine DQ.acallR (hc:=hHX) (hR:=fun wx hm=>⟨RdF.ownO (Hs.sg hm) rfl,RdF.ownO (Hs.sg hm) rfl,RdF.ownO (Hs.sg hm) rfl⟩) (k:=?_);refine DQ.does (fun s _=>ez (A:=ddH k.ep z.1) (B:=ddH k.ep X) (ut k.ep z.1) (ut k.ep X) (yP k.ep z.1) (yP k.ep X) rfl rfl (by rw[decide_eq_true hze];try rfl)) Dp.const ?_;refine Dc ?_;refine DQ.anil (k:=?_);intro sx5 _
      try simp only[List.map_cons,List.map_nil,List.cons_append,List.nil_append]
      repeat (first|refine Te ?_|(refine Tm ?_;intro _)|refine Tc ?_|exact Tz)
      refine WX.seq ?_
      repeat (first|refine Te ?_|(refine Tm ?_;intro _)|refine Tc ?_|exact Tz)
      refine WX.seq ?_;refine WC.joinI (σ:=Sa) (fun s=>s.i=i+1∧s.lg=lg2∧s.lc=lc2∧s.D=D2∧s.T.length≤i+1∧s.T.map Prod.fst=D2.map Prod.fst∧(0<s.T.length→s.T.length≤s.cD∧s.cD<9223372036854775808)) (fun s=>[(1,.int .u64 (k.ep:Int)),(2,.slice (some ⟨bl,ol,none⟩) l.length cl),(3,Sx.pt gz),(7,Sx.pt gS),(9,Sx.pt k.P),(11,pU s.gD s.cD s.T),(12,.int .i64 (i:Int))]) (fun s=>⟨gz,29,csC p q g h0 a (F:Int) (m:Int) (.slice pk ks.length ck)⟩::⟨gS,33,stC p q g (exN p g a) (F:Int) (m:Int) (.slice (some ⟨gN,0,none⟩) ks.length cN)⟩::⟨gN,96,N.flatMap yf++mkz (cN - ks.length) (y7 0 0)⟩::saE k s) ?_ (fun s hs=>?_)
      · cases was with
        | true =>
          repeat (first|refine Tw ?_|(refine Tm ?_;intro _)|exact Tz)
          rw[← eT];exact WX.metI ⟨i+1,gD,cD,T,lg2,lc2,D2⟩ (hl:=by unfold saE;repeat (first|exact Lle.left'|refine Lle.c ?_|refine Lle.skp ?_)) (hs:=⟨rfl,rfl,rfl,rfl,by show T.length≤i+1;omega,by rw[hD2];exact hTD,hr⟩)
        | false =>
          have hD2' : (T++[(X,(⟨gV,gY,gP,0,0,0⟩ : Dk))]).map Prod.fst=D2.map Prod.fst:=by rw[hD2,List.map_append,hTD];rfl
          rcases Nat.eq_zero_or_pos T.length with hT0|hT0
          · obtain rfl:=List.length_eq_zero_iff.1 hT0;have e9:Value.slice none 0 0=.slice pT ([]:List (Dd × Dk)).length cT:=eT;rw[← e9]
            repeat (first|refine Tw ?_|(refine Tm ?_;intro _)|exact Tz)
            refine WO.makes (zh (cs:=ddC k.ep (X,⟨gV,gY,gP,0,0,0⟩)) rfl (by decide) rfl) ?_;intro gB;refine WO.appNZ (z:=dzC) (ys:=ddC k.ep (X,⟨gV,gY,gP,0,0,0⟩)) (m:=1) rfl rfl rfl (Rds.own (m:=13) Hs.a rfl) rfl (by decide) (by decide) (by decide) (by decide) (fun g1 c1 a1 b1=>?_)
            repeat (first|refine Tw ?_|(refine Tm ?_;intro _)|exact Tz)
            exact WX.metI ⟨i+1,g1,c1,[]++[(X,⟨gV,gY,gP,0,0,0⟩)],lg2,lc2,D2⟩ (hl:=by simp only[saE,qo,kG,ddL,List.nil_append,List.length_singleton,rwL,List.flatMap_cons,List.flatMap_nil,List.append_nil,List.cons_append];repeat (first|exact Lle.left'|refine Lle.c ?_|refine Lle.skp ?_)) (hs:=⟨rfl,rfl,rfl,rfl,by show 1≤i+1;omega,hD2',fun _=>⟨by show 1≤c1;omega,a1⟩⟩)
          · have e9:Value.slice (some ⟨gD,0,none⟩) T.length cD=.slice pT T.length cT:=(yd hT0).symm.trans eT;have hrow:qo k.ep gD cD T=[⟨gD,47,T.flatMap (ddC k.ep)++mkz (cD - T.length) dzC⟩]:=ye hT0;have hT13:(T.flatMap (ddC k.ep)).length=T.length*13:=zK (f:=ddC k.ep) (k:=13) (fun _=>rfl) T;rw[← e9];simp only[hrow,List.cons_append,List.nil_append]
            repeat (first|refine Tw ?_|(refine Tm ?_;intro _)|exact Tz)
            refine WO.makes (zh (cs:=ddC k.ep (X,⟨gV,gY,gP,0,0,0⟩)) rfl (by decide) rfl) ?_;intro gB;refine WO.appKZ (z:=dzC) (m:=1) (l:=T.length+1) rfl rfl rfl (xs:=T.flatMap (ddC k.ep)) (ys:=ddC k.ep (X,⟨gV,gY,gP,0,0,0⟩)) hT13 (hr hT0).1 Pk.a (Rds.own (m:=13) Hs.a rfl) rfl rfl rfl Om (hr hT0).2 Om (by decide) (by decide) (fun g1 c1 a1 b1=>?_)
            repeat (first|refine Tw ?_|(refine Tm ?_;intro _)|exact Tz)
            have hTl:(T++[(X,(⟨gV,gY,gP,0,0,0⟩ : Dk))]).length=T.length+1:=by simp
            have hflat:T.flatMap (ddC k.ep)++ddC k.ep (X,⟨gV,gY,gP,0,0,0⟩)=(T++[(X,(⟨gV,gY,gP,0,0,0⟩ : Dk))]).flatMap (ddC k.ep):=by rw[List.flatMap_append];simp
            rw[hflat];rw[← hTl,← yd (g:=g1) (c:=c1) (n:=(T++[(X,(⟨gV,gY,gP,0,0,0⟩ : Dk))]).length) (by rw[hTl];omega)];exact WX.metI ⟨i+1,g1,c1,T++[(X,⟨gV,gY,gP,0,0,0⟩)],lg2,lc2,D2⟩ (hl:=by simp only[saE,qo,kG,ddL,ye (show 0<(T++[(X,(⟨gV,gY,gP,0,0,0⟩ : Dk))]).length by rw[hTl];omega),List.nil_append,List.cons_append];repeat (first|exact Lle.left'|refine Lle.c ?_|refine Lle.skp ?_)) (hs:=⟨rfl,rfl,rfl,rfl,by show (T++[_]).length≤i+1;rw[List.length_append];show T.length+1≤i+1;omega,hD2',fun _=>⟨by show (T++[_]).length≤c1;rw[List.length_append];exact b1,a1⟩⟩)
      clear hr hTD hTi hwas eT eT2 eT3 eT';obtain⟨i',gD,cD,T2,lg3,lc3,D3⟩:=s;obtain⟨e1,e2,e3,e4,hT2l,hT2D,hr2⟩:=hs;dsimp only at e1 e2 e3 e4 hT2l hT2D hr2 ⊢;subst i' lg3 lc3 D3;clear hHX hGe hPA hze hHz hzf hDe;have hDT:T2.length=D2.length:=by have e:=congrArg List.length hT2D;rw[List.length_map,List.length_map] at e;exact e
      have hT2p:0<T2.length:=by rw[hDT];exact List.length_pos_of_mem hzD
      have hT27:∀ y∈T2,y.1.d≤7:=fun y hy=>by
        have h1:y.1∈D2.map Prod.fst:=by rw[← hT2D];exact List.mem_map.2 ⟨y,hy,rfl⟩
        obtain⟨z,h2,h3⟩:=List.mem_map.1 h1;have:=(hI2.d1 z h2).2;have:=hI2.n7;rw[← h3];omega
      have hT2any:∀ c,(D2.any fun y=>y.1.d == c)=T2.any fun y=>y.1.d == c:=fun c=>by
        have e1:∀ L:List (Dd × Dk),(L.any fun y=>y.1.d == c)=(L.map Prod.fst).any fun y=>y.d == c:=fun L=>by rw[List.any_map];rfl
        rw[e1,e1,hT2D]
      have hdlr:qi D2 ks.length=(sF k.ep D2).length:=by rw[ji hI2,hO.N,hNl2]
      have hnf1 : -9223372036854775808≤(k.N.length:Int) - k.f:=by rw[hO.N,hO.f];omega
      have hnf2:(k.N.length:Int) - k.f≤9223372036854775807:=by rw[hO.N,hO.f];omega
      have hnf:(k.N.length:Int) - k.f=(ks.length:Int) - (F:Int):=by rw[hO.N,hO.f,hNl2]
      have h3f:3*(F:Int)+1≤(ks.length:Int):=h3f0;have hsF:IntKind.i64.wrap ((ks.length:Int) - (F:Int))=(ks.length:Int) - (F:Int):=i64_in Om Om;have hia:IntKind.i64.wrap ((i:Int)+1)=((i+1:Nat):Int):=zn Om Om Om;have hAl:=adt k lg2 lc2 D2 hI2 Om;simp only[saE,pU,qo,yd hT2p,ye hT2p,List.cons_append,List.nil_append]
      by_cases hen:(k.N.length:Int) - k.f≤((sF k.ep D2).length:Int)
      case neg =>
        have hFi:=cL k lg2 lc2 D2 hI2 hnf1 hnf2 hen;rw[hnf] at hen
        repeat (first|refine Tw ?_|(refine Tm ?_;intro _)|exact Tz)
        refine WO.acallR (hc:=hFi) (hR:=fun wx hm=>fun e he=>hm.ok e (by repeat (first|exact he|apply List.mem_cons_of_mem|apply List.mem_append_right))) (k:=?_)
        repeat (first|refine Tw ?_|(refine Tm ?_;intro _)|exact Tz)
        refine WC.loopI (σ:=Nat) (fun c=>c≤ks.length) (fun c=>[(1,.int .u64 (k.ep:Int)),(2,.slice (some ⟨bl,ol,none⟩) l.length cl),(3,Sx.pt gz),(7,Sx.pt gS),(9,Sx.pt k.P),(11,.slice (some ⟨gD,0,none⟩) T2.length cD),(12,.int .i64 (i:Int)),(21,.slice none 0 0),(22,.bool false),(23,.int .i64 (qi D2 c:Int)),(24,.int .i64 ((c+1:Nat):Int))]) (fun _=>⟨gz,29,csC p q g h0 a (F:Int) (m:Int) (.slice pk ks.length ck)⟩::⟨gS,33,stC p q g (exN p g a) (F:Int) (m:Int) (.slice (some ⟨gN,0,none⟩) ks.length cN)⟩::⟨gN,96,N.flatMap yf++mkz (cN - ks.length) (y7 0 0)⟩::⟨gD,47,T2.flatMap (ddC k.ep)++mkz (cD - T2.length) dzC⟩::(ddB T2++y9 k lg2 lc2 D2)) (fun c=>ks.length - c) 0 (fun c hc=>?_) (Nat.zero_le _) (hl:=by repeat (first|exact Lle.left'|refine Lle.c ?_|refine Lle.skp ?_))
        try dsimp only at hc ⊢
        by_cases hcl:c<ks.length
        · have hd1:=mf D2 c;have hdle:qi D2 c≤c:=by unfold qi;exact Nat.le_trans (List.length_filter_le _ _) (by rw[List.length_range'];exact Nat.le_refl _)
          have hca:IntKind.i64.wrap (((c+1:Nat):Int)+1)=((c+1+1:Nat):Int):=zn Om Om Om
          repeat (first|refine Tw ?_|(refine Tm ?_;intro _)|exact Tz)
          refine WC.dT rfl Om ?_
          repeat (first|refine Tw ?_|(refine Tm ?_;intro _)|exact Tz)
          refine WC.loopI (σ:=Nat) (fun kk=>kk≤T2.length∧∀ y∈T2.take kk,y.1.d≠c+1) (fun kk=>[(1,.int .u64 (k.ep:Int)),(2,.slice (some ⟨bl,ol,none⟩) l.length cl),(3,Sx.pt gz),(7,Sx.pt gS),(9,Sx.pt k.P),(11,.slice (some ⟨gD,0,none⟩) T2.length cD),(12,.int .i64 (i:Int)),(21,.slice none 0 0),(22,.bool false),(23,.int .i64 (qi D2 c:Int)),(24,.int .i64 ((c+1:Nat):Int)),(25,.int .i64 (kk:Int))]) (fun _=>⟨gz,29,csC p q g h0 a (F:Int) (m:Int) (.slice pk ks.length ck)⟩::⟨gS,33,stC p q g (exN p g a) (F:Int) (m:Int) (.slice (some ⟨gN,0,none⟩) ks.length cN)⟩::⟨gN,96,N.flatMap yf++mkz (cN - ks.length) (y7 0 0)⟩::⟨gD,47,T2.flatMap (ddC k.ep)++mkz (cD - T2.length) dzC⟩::(ddB T2++y9 k lg2 lc2 D2)) (fun kk=>T2.length - kk) 0 (fun kk hk=>?_) ⟨Nat.zero_le _,by simp⟩ (hl:=by repeat (first|exact Lle.left'|refine Lle.c ?_|refine Lle.skp ?_));obtain⟨hk1,hk2⟩:=hk
          try dsimp only at hk1 hk2 ⊢
          by_cases hkl:kk<T2.length
          · obtain⟨y,hy⟩ : ∃ y,T2[kk]?=some y:=⟨_,List.getElem?_eq_getElem hkl⟩;have hym:=List.mem_of_getElem? hy;have hcy:cut (T2.flatMap (ddC k.ep)++mkz (cD - T2.length) dzC) (kk*13) 13=ddC k.ep y:=vT (fun x _=>rfl) hy;have hcd:(T2.flatMap (ddC k.ep)++mkz (cD - T2.length) dzC)[kk*13+1]?=some (.int .u8 (y.1.d:Int)):=vp (j:=1) (v:=.int .u8 (y.1.d:Int)) hcy rfl;have hyd:y.1.d≤7:=hT27 y hym;have hcv:IntKind.i64.wrap (y.1.d:Int)=(y.1.d:Int):=i64_in Om Om;have hka:IntKind.i64.wrap ((kk:Int)+1)=((kk+1:Nat):Int):=zn Om Om Om
            by_cases hyc:y.1.d=c+1
            · have hda:IntKind.i64.wrap ((qi D2 c:Int)+1)=((qi D2 (c+1):Nat):Int):=by
                rw[hd1,if_pos (by rw[hT2any];exact List.any_eq_true.2 ⟨y,hym,by simpa using hyc⟩)];exact zn Om Om Om
              repeat (first|refine Tw ?_|(refine Tm ?_;intro _)|exact Tz)
              refine WC.dT rfl Om ?_
              repeat (first|refine WO.does (zJ (hc:=hcd)) ?_|refine WO.does (zD rfl hcv) ?_|refine WO.does (zZ rfl rfl Om) ?_|refine WO.does (zi rfl rfl hda) ?_|refine WO.does (zi rfl rfl hca) ?_|refine Ta ?_|(refine Tm ?_;intro _)|refine Tc ?_|exact Tz)
              exact WX.metI (c+1) (hl:=by repeat (first|exact Lle.left'|refine Lle.c ?_|refine Lle.skp ?_)) (hs:=⟨by show c+1≤ks.length;omega,by show ks.length - (c+1)<ks.length - c;omega⟩)
            · repeat (first|refine Tw ?_|(refine Tm ?_;intro _)|exact Tz)
              refine WC.dT rfl Om ?_
              repeat (first|refine WO.does (zJ (hc:=hcd)) ?_|refine WO.does (zD rfl hcv) ?_|refine WO.does (yg rfl rfl Om) ?_|refine WO.does (zi rfl rfl hka) ?_|refine Ta ?_|(refine Tm ?_;intro _)|refine Tc ?_|exact Tz)
              exact WX.metI (kk+1) (hl:=by repeat (first|exact Lle.left'|refine Lle.c ?_|refine Lle.skp ?_)) (hs:=⟨⟨by show kk+1≤T2.length;omega,fun z hz=>by
                rw[List.take_add_one,hy] at hz
                rcases List.mem_append.1 hz with hz|hz
                · exact hk2 z hz
                · have:z=y:=by simpa using hz
                  rw[this];exact hyc⟩,by show T2.length - (kk+1)<T2.length - kk;omega⟩)
          · have hno:qi D2 c=qi D2 (c+1):=by
              rw[hd1,if_neg (fun h=>by
                rw[hT2any] at h;obtain⟨y,hy,h1⟩:=List.any_eq_true.1 h;exact hk2 y (by rw[List.take_of_length_le Om];exact hy) (by simpa using h1))]
              rfl
            have hkk:kk=T2.length:=by omega
            rw[hkk]
            repeat (first|refine Tw ?_|(refine Tm ?_;intro _)|exact Tz)
            refine WC.dF rfl Om ?_
            repeat (first|refine WO.does (zi rfl rfl hca) ?_|refine Ta ?_|(refine Tm ?_;intro _)|refine Tc ?_|exact Tz)
            rw[hno];exact WX.metI (c+1) (hl:=by repeat (first|exact Lle.left'|refine Lle.c ?_|refine Lle.skp ?_)) (hs:=⟨by show c+1≤ks.length;omega,by show ks.length - (c+1)<ks.length - c;omega⟩)
        have hcc:c=ks.length:=by omega
        rw[hcc,hdlr]
        repeat (first|refine Tw ?_|(refine Tm ?_;intro _)|exact Tz)
        refine WC.dF rfl Om ?_
        repeat (first|refine WO.does (zG rfl rfl hsF) ?_|refine WO.does (yv rfl rfl Om) ?_|refine WO.does (aaF rfl rfl) ?_|refine Ta ?_|(refine Tm ?_;intro _)|refine WO.skipU ?_ rfl rfl rfl|refine Tc ?_|exact Tz)
        refine WO.acallX (hc:=hAl) (hR:=fun wx hm=>fun e he=>hm.ok e (by repeat (first|exact he|apply List.mem_cons_of_mem|apply List.mem_append_right))) (k:=fun s _=>?_)
        repeat (first|refine WO.does (zB rfl rfl Om) ?_|refine WO.does (zi rfl rfl hia) ?_|refine Ta ?_|(refine Tm ?_;intro _)|refine Tc ?_|exact Tz)
        rw[← yd (g:=gD) (c:=cD) (n:=T2.length) hT2p];exact WX.metI ⟨i+1,gD,cD,T2,lg2,lc2,D2⟩ (hl:=by simp only[saE,qo,ye hT2p,List.cons_append,List.nil_append];repeat (first|exact Lle.left'|refine Lle.c ?_|refine Lle.skp ?_)) (hs:=⟨⟨by show i+1≤l.length;omega,by show T2.length≤i+1;omega,hT2D,hI2,hr2⟩,by show l.length - (i+1)<l.length - i;omega⟩)
      have hFi:=ax k lg2 lc2 D2 hI2 hnf1 hnf2 hen Om;have hFb:=fun H (hH:H∈sF k.ep D2)=>ab5 hH;have hF7:(sF k.ep D2).length≤7:=by rw[ji hI2];exact Nat.le_trans (List.length_filter_le _ _) (by rw[List.length_range'];exact hI2.n7)
      have hFs:=aK hI2;have hS0:=fun gF=>afk k lg2 lc2 D2 hI2 (some ⟨gF,0,none⟩) (sF k.ep D2).length (sF k.ep D2) hFb Om hnf1 hnf2;rw[hnf] at hen;simp only[hFs,Bool.true_and,hnf,decide_eq_true hen] at hS0
      repeat (first|refine Tw ?_|(refine Tm ?_;intro _)|exact Tz)
      refine WO.acallX (hc:=hFi) (hR:=fun wx hm=>fun e he=>hm.ok e (by repeat (first|exact he|apply List.mem_cons_of_mem|apply List.mem_append_right))) (k:=fun s _=>?_);generalize s 0=gF;generalize s 1=rF;have hS:=hS0 gF;clear hS0 hFi;generalize sF k.ep D2=FF at *;obtain⟨n,hn'⟩ : ∃ n,FF.length=n:=⟨_,rfl⟩;rw[hn'] at hS hen hdlr ⊢
      repeat (first|refine Tw ?_|(refine Tm ?_;intro _)|exact Tz)
      refine WC.loopI (σ:=Nat) (fun c=>c≤ks.length) (fun c=>[(1,.int .u64 (k.ep:Int)),(2,.slice (some ⟨bl,ol,none⟩) l.length cl),(3,Sx.pt gz),(7,Sx.pt gS),(9,Sx.pt k.P),(11,.slice (some ⟨gD,0,none⟩) T2.length cD),(12,.int .i64 (i:Int)),(21,.slice (some ⟨gF,0,none⟩) n n),(22,.bool true),(23,.int .i64 (qi D2 c:Int)),(24,.int .i64 ((c+1:Nat):Int))]) (fun _=>⟨gz,29,csC p q g h0 a (F:Int) (m:Int) (.slice pk ks.length ck)⟩::⟨gS,33,stC p q g (exN p g a) (F:Int) (m:Int) (.slice (some ⟨gN,0,none⟩) ks.length cN)⟩::⟨gN,96,N.flatMap yf++mkz (cN - ks.length) (y7 0 0)⟩::⟨gF,53,FF.flatMap byC++mkz rF (byC (List.replicate 32 0))⟩::⟨gD,47,T2.flatMap (ddC k.ep)++mkz (cD - T2.length) dzC⟩::(ddB T2++y9 k lg2 lc2 D2)) (fun c=>ks.length - c) 0 (fun c hc=>?_) (Nat.zero_le _) (hl:=by repeat (first|exact Lle.left'|refine Lle.c ?_|refine Lle.skp ?_))
      try dsimp only at hc ⊢
      by_cases hcl:c<ks.length
      · have hd1:=mf D2 c;have hdle:qi D2 c≤c:=by unfold qi;exact Nat.le_trans (List.length_filter_le _ _) (by rw[List.length_range'];exact Nat.le_refl _)
        have hca:IntKind.i64.wrap (((c+1:Nat):Int)+1)=((c+1+1:Nat):Int):=zn Om Om Om
        repeat (first|refine Tw ?_|(refine Tm ?_;intro _)|exact Tz)
        refine WC.dT rfl Om ?_
        repeat (first|refine Tw ?_|(refine Tm ?_;intro _)|exact Tz)
        refine WC.loopI (σ:=Nat) (fun kk=>kk≤T2.length∧∀ y∈T2.take kk,y.1.d≠c+1) (fun kk=>[(1,.int .u64 (k.ep:Int)),(2,.slice (some ⟨bl,ol,none⟩) l.length cl),(3,Sx.pt gz),(7,Sx.pt gS),(9,Sx.pt k.P),(11,.slice (some ⟨gD,0,none⟩) T2.length cD),(12,.int .i64 (i:Int)),(21,.slice (some ⟨gF,0,none⟩) n n),(22,.bool true),(23,.int .i64 (qi D2 c:Int)),(24,.int .i64 ((c+1:Nat):Int)),(25,.int .i64 (kk:Int))]) (fun _=>⟨gz,29,csC p q g h0 a (F:Int) (m:Int) (.slice pk ks.length ck)⟩::⟨gS,33,stC p q g (exN p g a) (F:Int) (m:Int) (.slice (some ⟨gN,0,none⟩) ks.length cN)⟩::⟨gN,96,N.flatMap yf++mkz (cN - ks.length) (y7 0 0)⟩::⟨gF,53,FF.flatMap byC++mkz rF (byC (List.replicate 32 0))⟩::⟨gD,47,T2.flatMap (ddC k.ep)++mkz (cD - T2.length) dzC⟩::(ddB T2++y9 k lg2 lc2 D2)) (fun kk=>T2.length - kk) 0 (fun kk hk=>?_) ⟨Nat.zero_le _,by simp⟩ (hl:=by repeat (first|exact Lle.left'|refine Lle.c ?_|refine Lle.skp ?_));obtain⟨hk1,hk2⟩:=hk
        try dsimp only at hk1 hk2 ⊢
        by_cases hkl:kk<T2.length
        · obtain⟨y,hy⟩ : ∃ y,T2[kk]?=some y:=⟨_,List.getElem?_eq_getElem hkl⟩;have hym:=List.mem_of_getElem? hy;have hcy:cut (T2.flatMap (ddC k.ep)++mkz (cD - T2.length) dzC) (kk*13) 13=ddC k.ep y:=vT (fun x _=>rfl) hy;have hcd:(T2.flatMap (ddC k.ep)++mkz (cD - T2.length) dzC)[kk*13+1]?=some (.int .u8 (y.1.d:Int)):=vp (j:=1) (v:=.int .u8 (y.1.d:Int)) hcy rfl;have hyd:y.1.d≤7:=hT27 y hym;have hcv:IntKind.i64.wrap (y.1.d:Int)=(y.1.d:Int):=i64_in Om Om;have hka:IntKind.i64.wrap ((kk:Int)+1)=((kk+1:Nat):Int):=zn Om Om Om
          by_cases hyc:y.1.d=c+1
          · have hda:IntKind.i64.wrap ((qi D2 c:Int)+1)=((qi D2 (c+1):Nat):Int):=by
              rw[hd1,if_pos (by rw[hT2any];exact List.any_eq_true.2 ⟨y,hym,by simpa using hyc⟩)];exact zn Om Om Om
            repeat (first|refine Tw ?_|(refine Tm ?_;intro _)|exact Tz)
            refine WC.dT rfl Om ?_
            repeat (first|refine WO.does (zJ (hc:=hcd)) ?_|refine WO.does (zD rfl hcv) ?_|refine WO.does (zZ rfl rfl Om) ?_|refine WO.does (zi rfl rfl hda) ?_|refine WO.does (zi rfl rfl hca) ?_|refine Ta ?_|(refine Tm ?_;intro _)|refine Tc ?_|exact Tz)
            exact WX.metI (c+1) (hl:=by repeat (first|exact Lle.left'|refine Lle.c ?_|refine Lle.skp ?_)) (hs:=⟨by show c+1≤ks.length;omega,by show ks.length - (c+1)<ks.length - c;omega⟩)
          · repeat (first|refine Tw ?_|(refine Tm ?_;intro _)|exact Tz)
            refine WC.dT rfl Om ?_
            repeat (first|refine WO.does (zJ (hc:=hcd)) ?_|refine WO.does (zD rfl hcv) ?_|refine WO.does (yg rfl rfl Om) ?_|refine WO.does (zi rfl rfl hka) ?_|refine Ta ?_|(refine Tm ?_;intro _)|refine Tc ?_|exact Tz)
            exact WX.metI (kk+1) (hl:=by repeat (first|exact Lle.left'|refine Lle.c ?_|refine Lle.skp ?_)) (hs:=⟨⟨by show kk+1≤T2.length;omega,fun z hz=>by
              rw[List.take_add_one,hy] at hz
              rcases List.mem_append.1 hz with hz|hz
              · exact hk2 z hz
              · have:z=y:=by simpa using hz
                rw[this];exact hyc⟩,by show T2.length - (kk+1)<T2.length - kk;omega⟩)
        · have hno:qi D2 c=qi D2 (c+1):=by
            rw[hd1,if_neg (fun h=>by
              rw[hT2any] at h;obtain⟨y,hy,h1⟩:=List.any_eq_true.1 h;exact hk2 y (by rw[List.take_of_length_le Om];exact hy) (by simpa using h1))]
            rfl
          have hkk:kk=T2.length:=by omega
          rw[hkk]
          repeat (first|refine Tw ?_|(refine Tm ?_;intro _)|exact Tz)
          refine WC.dF rfl Om ?_
          repeat (first|refine WO.does (zi rfl rfl hca) ?_|refine Ta ?_|(refine Tm ?_;intro _)|refine Tc ?_|exact Tz)
          rw[hno];exact WX.metI (c+1) (hl:=by repeat (first|exact Lle.left'|refine Lle.c ?_|refine Lle.skp ?_)) (hs:=⟨by show c+1≤ks.length;omega,by show ks.length - (c+1)<ks.length - c;omega⟩)
      have hcc:c=ks.length:=by omega
      rw[hcc,hdlr]
      repeat (first|refine Tw ?_|(refine Tm ?_;intro _)|exact Tz)
      refine WC.dF rfl Om ?_
      repeat (first|refine WO.does (zG rfl rfl hsF) ?_|refine WO.does (uG rfl rfl Om) ?_|refine WO.does (aaF rfl rfl) ?_|refine WO.does (zB rfl rfl rfl) ?_|refine Ta ?_|(refine Tm ?_;intro _)|refine Tc ?_|exact Tz)
      refine WO.acallR (hc:=hS) (hR:=fun wx hm=>⟨fun e he=>hm.ok e (by repeat (first|exact he|apply List.mem_cons_of_mem|apply List.mem_append_right)),RdF.ownO (Hs.sg hm) hn'⟩) (k:=?_)
      repeat (first|refine Tw ?_|(refine Tm ?_;intro _)|exact Tz)
      refine WO.acallX (hc:=hAl) (hR:=fun wx hm=>fun e he=>hm.ok e (by repeat (first|exact he|apply List.mem_cons_of_mem|apply List.mem_append_right))) (k:=fun s _=>?_)
      repeat (first|refine WO.does (zB rfl rfl Om) ?_|refine WO.does (zi rfl rfl hia) ?_|refine Ta ?_|(refine Tm ?_;intro _)|refine Tc ?_|exact Tz)
      rw[← yd (g:=gD) (c:=cD) (n:=T2.length) hT2p];exact WX.metI ⟨i+1,gD,cD,T2,lg2,lc2,D2⟩ (hl:=by simp only[saE,qo,ye hT2p,List.cons_append,List.nil_append];repeat (first|exact Lle.left'|refine Lle.c ?_|refine Lle.skp ?_)) (hs:=⟨⟨by show i+1≤l.length;omega,by show T2.length≤i+1;omega,hT2D,hI2,hr2⟩,by show l.length - (i+1)<l.length - i;omega⟩)
  · have hi3:i=l.length:=by omega
    subst hi3
    repeat (first|refine Tw ?_|(refine Tm ?_;intro _)|exact Tz)
    refine WC.dF rfl Om ?_
    repeat (first|refine Ta ?_|(refine Tm ?_;intro _)|refine WO.acall (hc:=hL) (k:=?_)|refine Tc ?_|exact Tz)
    done
end
end Sx
end
end Go.Proofs.YtiiefkchpicncaaGreatDoor
