/- Part 43 of the proof. -/
import Derived.Test.YtbhblpnjhkddbaaGreatE42
import Derived.Test.YtbhblpnjhkddbaaGreatE36
set_option linter.unusedSimpArgs false
set_option linter.unusedVariables false
set_option maxHeartbeats 8000000
namespace Go.Proofs.YtbhblpnjhkddbaaGreat
section
open Go Go.RowKit Go.BigFrame
namespace Sx
attribute [local irreducible] DQ DQS WC WO WX wd
theorem RdF.modG {α:Type} {f:α→List Value} {pt:Option Addr} {n c:Nat} {xs:List α} {w w' : World} {gs:List Nat} (h:RdF f (.slice pt n c) xs w) (hm:Mod gs w w') (hb:∀ b o,pt=some ⟨b,o,none⟩→xs≠[]→b ∉ gs):RdF f (.slice pt n c) xs w':=by
 obtain⟨pt',c',e,h⟩:=h;cases e
 by_cases hx:xs=[]
 ·refine⟨_,_,rfl,?_⟩
  rcases h with h|⟨b,o,e,hs⟩
  ·exact .inl h
  ·exact .inr ⟨b,o,e,by subst hx;intro i v hv;simp at hv⟩
 ·refine⟨_,_,rfl,h.imp id (fun ⟨b,o,e,hs⟩=>⟨b,o,e,hs.mod hm (hb b o e hx)⟩)⟩
theorem nc (g c n:Nat):∃ pt c',nrV g c n n=.slice pt n c'∧((n=0∧pt=none)∨pt=some ⟨g,0,none⟩):=by
 cases n with
 | zero=>exact⟨none,0,rfl,.inl ⟨rfl,rfl⟩⟩
 | succ n=>exact⟨_,c,rfl,.inr rfl⟩
theorem py {g:Nat} {D:List Nat} {r:List Value} (h:D≠[]):nrL g D r D.length=[⟨g,24,D.flatMap zb++r⟩]:=by
 cases D with
 | nil=>exact absurd rfl h
 | cons a l=>rfl
theorem aby {w0 w:World} {gs:List Nat} {L:List Ent} {gD cD' : Nat} {ptD:Option Addr} {D:List Nat} {rD:List Value} {gF:Nat} (hm:Mr w0 gs L w) (hpt:(D.length=0∧ptD=none)∨ptD=some ⟨gD,0,none⟩) (hL:D≠[]→Hs L gD 24 (D.flatMap zb++rD)) (hne:D≠[]→gD ∉ [gF]) :
  RdF zb (.slice ptD D.length cD') D w∧∀ b o,ptD=some ⟨b,o,none⟩→D≠[]→b ∉ [gF]:=by
 by_cases hD:D=[]
 ·subst hD;refine⟨⟨ptD,cD',rfl,?_⟩,fun b o _ h=>absurd rfl h⟩
  rcases hpt with ⟨_,h⟩|h
  ·exact .inl ⟨h,rfl⟩
  ·exact .inr ⟨gD,0,h,fun i v hv=>by simp at hv⟩
 ·have hp2:ptD=some ⟨gD,0,none⟩:=hpt.resolve_left (fun h=>hD (List.length_eq_zero_iff.1 h.1));subst hp2;refine⟨RdF.seg (r:=rD) (Hs.seg (hL hD) hm),fun b o e _=>?_⟩;cases e;exact hne hD
section
variable (p q g h gF:Nat)
theorem dE (l:List Nat) (pt:Option Addr) (c i li:Nat) (e:Int) (h1:1<q) (hl:∀ y∈l,y<q) (hn:l.length≤1000) (hli:l[i]?=some li) (hq:q<zc) :
  FnM Tryz.prog 138 [Sx.pt gF,.slice pt l.length c,.int .i64 (i:Int)] gF 158 (fdC p q g h e) (fdC p q g h (kE e (iE (prM q 1 (dif q l i li l.length)) q))) (fun w=>RdF zb (.slice pt l.length c) l w∧∀ b o,pt=some ⟨b,o,none⟩→l≠[]→b ∉ [gF])
   (ze (vU (prM q 1 (dif q l i li l.length)) q)):=by
 have hil:i<l.length:=by
  rcases Nat.lt_or_ge i l.length with h|h
  ·exact h
  ·rw[List.getElem?_eq_none h] at hli;cases hli
 have hlq:=hl li (List.mem_of_getElem? hli);have hOf:=ik p q g h 1 (by decide) hq;rw[show ofZ q ((1:Nat):Int)=1 by rw[pL q 1 (by omega),Nat.mod_eq_of_lt h1]] at hOf;have hOth:=m6 p q g h gF l pt c i li e h1 hl hlq hn (by omega) hq;have hdl:=bS (q:=q) (l:=l) (i:=i) (x:=li) (k:=l.length) (by omega);have hdn:=mE (q:=q) (l:=l) (i:=i) (x:=li) (k:=l.length);generalize dif q l i li l.length=D at *;have hGa:=fun pt c=>oC p q g h gF D pt c 1 e h1 h1 hdl (by omega) hq;have hUn:=eS p q g h gF (prM q 1 D) e h1 (oF (by omega) h1 D) hq;generalize prM q 1 D=M at *;generalize vU M q=I at *;generalize iE M q=E at *;refine FnM.enter Tryz.func138 rfl rfl rfl ?_;intro w hw;obtain⟨hwl,hout⟩:=hw;obtain⟨b,o,rfl,_,hs⟩:=RdF.get hwl hli;have hb:b ∉ [gF]:=hout b o rfl (by rintro rfl;simp at hli);have hcx:cut (l.flatMap zb) (o+i*4 - o) 4=zb li:=by rw[Nat.add_sub_cancel_left];exact yb (f:=zb) (k:=4) (fun _=>rfl) hli
 repeat (first|refine Tw ?_|(refine Tm ?_;intro _)|exact Tz)
 rename_i gR;refine WC.mains [4,5,13,16,17,18] [(0,Sx.pt gF),(1,Sx.pt gF),(2,Sx.pt gF),(3,Sx.pt gF),(6,Sx.pt gF),(7,.slice (some ⟨b,o,none⟩) l.length c),(8,.int .i64 (i:Int)),(9,.slice (some ⟨b,o,none⟩) l.length c),(10,.int .i64 (i:Int)),(11,.pointer (some ⟨b,o+i*4,none⟩)),(12,ze li),(14,Sx.pt gF),(15,.func (.func 101) #[Sx.pt gF] #[])] (by decide) ?_;refine WM.with [] (by kernel_rfl) (Tls.auto (Tls.auto (Tls.auto (Tls.auto (Tls.auto (Tls.auto (Tls.auto (Tls.auto (Tls.auto (Tls.cons rfl (za (o':=o+i*4) rfl rfl hil rfl) (Tls.cons rfl (zk (vs:=zb li) (hs:=hs) (hle:=Nat.le_add_right _ _) (hb:=hb) (hc:=hcx)) (Tls.auto (Tls.auto Tls.nil))))))))))))) (fun hc hT=>?_)
 refine WM.step (m:=4) rfl rfl hc hT ?_;refine WO.does (zq (vs:=vg p q g h)) ?_;refine WO.nil (WX.wm [(11,yR p q g h)] ?_);refine WM.step (m:=5) rfl rfl hc hT ?_;refine WO.acall (hc:=hOf) (k:=?_);refine WO.nil (WX.wm [(12,ze 1)] ?_);refine WM.step (m:=13) rfl rfl hc hT ?_;refine WO.callsL (hc:=hOth) (hp:=.cons Pk.a .nil) (fun w1 hm=>⟨hwl.modG hm.mod hout,hout⟩) (fun v N hv=>?_);obtain⟨gD,cD,rD,rfl,rfl⟩:=hv;obtain⟨ptD,cD',hv,hpt⟩:=nc gD cD D.length;rw[hv];rw[List.cons_append];refine WO.permL (List.Perm.cons _ List.perm_append_comm) ?_;rw[List.singleton_append];refine WO.nil (WX.wm [(20,.slice ptD D.length cD')] ?_);refine WM.step (m:=16) rfl rfl hc hT ?_ (hl0:=Lle.nil);refine WO.ndp (fun hnd=>?_);refine WO.callM rfl (hGa ptD cD') (by repeat (first|exact Rp.here|apply Rp.there)) (fun w1 hm=>aby hm hpt (fun h=>by rw[py h];exact .there (.there .here)) (fun h=>by rw[py h] at hnd;simp at hnd ⊢;exact fun e=>hnd.1.2 e.symm)) (by decide) ?_ rfl rfl;refine WO.nil (WX.wm [(23,ze M)] ?_);refine WM.step (m:=17) rfl rfl hc hT ?_ (hl0:=Lle.nil);refine WO.callM rfl hUn (by repeat (first|exact Rp.here|apply Rp.there)) (fun _ _=>trivial) (by decide) ?_ rfl rfl;refine WO.nil (WX.wm [(24,ze I)] ?_);refine WM.step (m:=18) rfl rfl hc hT ?_ (hl0:=Lle.nil);refine WO.autoS (k:=?_);refine WO.nil (WX.wm [] ?_);refine WM.fin (m:=18) hc rfl rfl (by rfl) ?_;clear hc hT
 repeat (first|refine Tw ?_|(refine Tm ?_;intro _)|exact Tz)
 exact WX.retM_of (il rfl yU) .here
end
end Sx
end
end Go.Proofs.YtbhblpnjhkddbaaGreat
