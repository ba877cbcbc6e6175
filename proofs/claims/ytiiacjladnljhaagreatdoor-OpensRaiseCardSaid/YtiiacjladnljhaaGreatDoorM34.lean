/- Part 34 of the proof: WtB, BkA, BkE, WtC, DeC, SgA, SgB, DeD, DeE -/
import Derived.Test.YtiiacjladnljhaaGreatDoorM32
import Derived.Test.YtiiacjladnljhaaGreatDoorM30
import Derived.Test.YtiiacjladnljhaaGreatDoorM31
import Derived.Test.YtiiacjladnljhaaGreatDoorM26
set_option linter.unusedSimpArgs false
set_option linter.unusedVariables false
namespace Go.Proofs.YtiiacjladnljhaaGreatDoor
open Go Go.RowKit Go.BigFrame
namespace Sx
attribute [local irreducible] wd DQ DQS WO WC WX
def dif (q:Nat) (l:List Nat) (i x k:Nat):List Nat:=(List.range k).flatMap fun j=>if j=i then [] else [(x+q - l.getD j 0)%q]
theorem dif_same {q i x k:Nat} {l:List Nat} (h:k=i):dif q l i x (k+1)=dif q l i x k:=by unfold dif;rw[List.range_succ,List.flatMap_append];simp[h]
theorem dif_next {q i x k v:Nat} {l:List Nat} (h:k≠i) (hv:l[k]?=some v):dif q l i x (k+1)=dif q l i x k++[(x+q - v)%q]:=by unfold dif;rw[List.range_succ,List.flatMap_append];simp[h,List.getD,hv]
theorem dif_lt {q i x k:Nat} {l:List Nat} (hq:0<q):∀ d∈dif q l i x k,d<q:=by
  intro d hd
  unfold dif at hd
  obtain⟨j,_,hj⟩:=List.mem_flatMap.1 hd
  by_cases e:j=i
  · rw[if_pos e] at hj;cases hj
  · rw[if_neg e] at hj
    rw[List.mem_singleton.1 hj]
    exact Nat.mod_lt _ hq
theorem dif_len {q i x k:Nat} {l:List Nat}:(dif q l i x k).length≤k:=by
  induction k with
  | zero=>simp[dif]
  | succ k ih =>
    unfold dif at *
    rw[List.range_succ,List.flatMap_append,List.length_append]
    have:([k].flatMap fun j=>if j=i then [] else [(x+q - l.getD j 0)%q]).length≤1:=by
      simp only[List.flatMap_cons,List.flatMap_nil,List.append_nil]
      split<;>simp
    omega
def nrL (g:Nat) (D:List Nat) (r:List Value):Nat→List Ent
  | 0=>[]
  | _+1=>[⟨g,24,D.flatMap numC++r⟩]
def nrV (g c n:Nat):Nat→Value
  | 0=>.slice none 0 0
  | _+1=>.slice (some ⟨g,0,none⟩) n c
section
variable (p q g h gF:Nat)
set_option maxHeartbeats 2000000 in
theorem c_others (l:List Nat) (pt:Option Addr) (c i x:Nat) (e:Int) (h1:1<q) (hl:∀ y∈l,y<q) (hx:x<q) (hn:l.length≤1000) (hi:i<1000) (hq:q<B256) :
    FnL Tryz.prog 190 [Sx.pt gF,.slice pt l.length c,.int .i64 (i:Int),numV x] [⟨gF,253,fdC p q g h e⟩] (fun w=>RdF numC (.slice pt l.length c) l w∧∀ b o,pt=some ⟨b,o,none⟩→l≠[]→b ∉ [gF])
      (fun v N=>∃ g' c' r',v=nrV g' c' (dif q l i x l.length).length (dif q l i x l.length).length∧N=⟨gF,253,fdC p q g h e⟩::nrL g' (dif q l i x l.length) r' (dif q l i x l.length).length):=by
  refine FnL.enter Tryz.func190 rfl rfl rfl ?_
  intro w hw
  rw[show List.map Ent.g [(⟨gF,253,fdC p q g h e⟩ : Ent)]=[gF] from rfl]
  obtain⟨⟨pt',c',e1,hpc⟩,hout⟩:=hw
  cases e1
  repeat (first|refine Ta ?_|(refine Tm ?_;intro _)|refine Tc ?_|exact Tz)
  rename_i gX
  refine WC.loopI (σ:=Nat × Nat × Nat × List Value) (fun s=>s.1≤l.length∧(0<(dif q l i x s.1).length→((dif q l i x s.1).flatMap numC++s.2.2.2).length=s.2.2.1*4∧s.2.2.1<9223372036854775808)) (fun s=>[(0,Sx.pt gF),(1,.slice pt l.length c),(2,.int .i64 (i:Int)),(7,Sx.pt gX),(8,nrV s.2.1 s.2.2.1 (dif q l i x s.1).length (dif q l i x s.1).length),(11,.int .i64 (l.length:Int)),(12,.int .i64 (s.1:Int))])
    (fun s=>⟨gX,24,numC x⟩::⟨gF,253,fdC p q g h e⟩::nrL s.2.1 (dif q l i x s.1) s.2.2.2 (dif q l i x s.1).length) (fun s=>l.length - s.1) (0,0,0,[]) (fun s hs=>?_) ⟨Nat.zero_le _,fun h=>absurd h (by simp[dif])⟩
  obtain⟨k,g0,c0,r0⟩:=s
  try dsimp only at hs ⊢
  obtain⟨hk,hr⟩:=hs
  by_cases hlt:k<l.length
  · have hadd2:IntKind.i64.wrap ((k:Int)+1)=((k+1:Nat):Int):=i64_in' (by omega) (by omega) (by omega)
    by_cases hki:k=i
    · have hd:=dif_same (q:=q) (l:=l) (x:=x) hki
      rw[← hd] at hr ⊢
      repeat (first|refine Ta ?_|(refine Tm ?_;intro _)|refine Tc ?_|exact Tz)
      refine WC.dT rfl (by omega) ?_
      repeat (first|refine Ta ?_|(refine Tm ?_;intro _)|refine WO.does (does_neqN rfl rfl (by omega)) ?_|refine WO.does (does_add rfl rfl hadd2) ?_|refine Tc ?_|exact Tz)
      exact WX.metI (k+1,g0,c0,r0) (hl:=Lle.same) (hs:=⟨⟨by show k+1≤l.length;omega,hr⟩,by show l.length - (k+1)<l.length - k;omega⟩)
    · obtain⟨y,hy⟩ : ∃ y,l[k]?=some y:=⟨_,List.getElem?_eq_getElem hlt⟩
      rcases hpc with ⟨_,h0⟩|⟨b,o,rfl,hs⟩
      · rw[h0] at hlt;simp at hlt
      have hb:b ∉ [gF]:=hout b o rfl (by rintro rfl;simp at hlt)
      have hcx:cut (l.flatMap numC) (o+k*4 - o) 4=numC y:=by rw[Nat.add_sub_cancel_left];exact cut_flatP (f:=numC) (k:=4) (fun _=>rfl) hy
      have hd:=dif_next (q:=q) (x:=x) hki hy
      have hLs:=c_less1 p q g h gF x y e h1 hx (hl y (List.mem_of_getElem? hy)) hq
      have hDl:=dif_len (q:=q) (i:=i) (x:=x) (k:=k) (l:=l)
      have hfl:((dif q l i x k).flatMap numC).length=(dif q l i x k).length*4:=flat_length (f:=numC) (k:=4) (fun _=>rfl) _
      repeat (first|refine Ta ?_|(refine Tm ?_;intro _)|refine Tc ?_|exact Tz)
      refine WC.dT rfl (by omega) ?_
      repeat (first|refine Ta ?_|(refine Tm ?_;intro _)|refine WO.does (does_neqY rfl rfl (by omega)) ?_|refine Tc ?_|exact Tz)
      have hvl:(x+q - y)%q<q:=Nat.mod_lt _ (by omega)
      generalize (x+q - y)%q=v at *
      generalize hD:dif q l i x k=D at *
      refine WC.mains [7,8,9,10] [(0,nrV g0 c0 D.length D.length),(1,Sx.pt gF),(2,numV x),(3,.slice (some ⟨b,o,none⟩) l.length c),(4,.int .i64 (k:Int)),(5,.pointer (some ⟨b,o+k*4,none⟩)),(6,numV y)] (by decide) ?_
      refine WM.with [⟨gX,24,numC x⟩] (by kernel_rfl) (Tls.auto (Tls.auto (Tls.auto (Tls.auto (Tls.auto (Tls.cons rfl (does_indexSlice (o':=o+k*4) rfl rfl hlt rfl) (Tls.cons rfl (a_loadF (vs:=numC y) (hs:=hs) (hle:=Nat.le_add_right _ _) (hb:=hb) (hc:=hcx)) Tls.nil))))))) (fun hc hT=>?_)
      refine WM.step (m:=7) rfl rfl hc hT ?_
      refine WO.callM rfl hLs (by repeat (first|exact Rp.here|apply Rp.there)) (fun _ _=>trivial) (by decide) ?_ rfl rfl
      refine WO.nil (WX.wm [(25,numV v)] ?_)
      refine WM.step (m:=8) rfl rfl hc hT ?_
      refine WO.makes (makes_build (cs:=numC v) rfl (by decide) rfl) (fun gT=>?_)
      refine WO.nil (WX.wm [(26,.slice (some ⟨gT,0,none⟩) 1 1)] ?_)
      refine WM.step (m:=9) rfl rfl hc hT ?_
      rcases D with _|⟨d0,D⟩
      · refine WO.appN (z:=numC 0) (ys:=numC v) (m:=1) rfl rfl rfl (Rds.own (m:=4) (by repeat (first|exact Hs.here|apply Hs.there)) rfl) rfl (by decide) (by decide) (by decide) (by decide) (fun g1 c1 r1 a1 a2 a3=>?_)
        refine WO.nil (WX.wm [(27,.slice (some ⟨g1,0,none⟩) 1 c1)] ?_)
        refine WM.step (m:=10) rfl rfl hc hT ?_
        refine WO.auto (k:=?_)
        refine WO.nil (WX.wm [(8,.slice (some ⟨g1,0,none⟩) 1 c1)] ?_)
        refine WM.fin (m:=10) hc rfl rfl (by rfl) ?_
        clear hc hT
        repeat (first|refine Ta ?_|(refine Tm ?_;intro _)|refine WO.does (does_add rfl rfl hadd2) ?_|refine Tc ?_|exact Tz)
        exact WX.metI (k+1,g1,c1,r1) (hk:=by (try dsimp only);rw[hd];repeat (first|exact Kle.nil|refine Kle.cons rfl (by first|rfl|simp[nrV]) ?_)) (hl:=by (try dsimp only);rw[hd];exact Lle.cons (by repeat (first|exact Pk.here|apply Pk.there)) rfl (Lle.cons (by repeat (first|exact Pk.here|apply Pk.there)) rfl (Lle.cons (by repeat (first|exact Pk.here|apply Pk.there)) rfl Lle.nil))) (hs:=⟨⟨by show k+1≤l.length;omega,fun _=>by show ((dif q l i x (k+1)).flatMap numC++r1).length=c1*4∧c1<9223372036854775808;rw[hd];exact⟨by simpa using a1,a2⟩⟩,by show l.length - (k+1)<l.length - k;omega⟩)
      · obtain⟨u1,u2⟩:=hr (by simp)
        refine WO.appK (z:=numC 0) (m:=1) (l:=(d0::D).length+1) rfl rfl rfl (xs:=(d0::D).flatMap numC) (r:=r0) (ys:=numC v) hfl u1 (by repeat (first|exact Pk.here|apply Pk.there)) (Rds.own (m:=4) (by repeat (first|exact Hs.here|apply Hs.there)) rfl) rfl rfl rfl (by omega) u2 (by omega) (by decide) (by decide) (fun g1 c1 r1 a1 a2 a3=>?_)
        refine WO.nil (WX.wm [(27,.slice (some ⟨g1,0,none⟩) ((d0::D).length+1) c1)] ?_)
        refine WM.step (m:=10) rfl rfl hc hT ?_
        refine WO.auto (k:=?_)
        refine WO.nil (WX.wm [(8,.slice (some ⟨g1,0,none⟩) ((d0::D).length+1) c1)] ?_)
        refine WM.fin (m:=10) hc rfl rfl (by rfl) ?_
        clear hc hT
        repeat (first|refine Ta ?_|(refine Tm ?_;intro _)|refine WO.does (does_add rfl rfl hadd2) ?_|refine Tc ?_|exact Tz)
        exact WX.metI (k+1,g1,c1,r1) (hk:=by (try dsimp only);rw[hd];repeat (first|exact Kle.nil|refine Kle.cons rfl (by first|rfl|simp[nrV]) ?_)) (hl:=by (try dsimp only);rw[hd];exact Lle.cons (by repeat (first|exact Pk.here|apply Pk.there)) rfl (Lle.cons (by repeat (first|exact Pk.here|apply Pk.there)) rfl (Lle.cons (by repeat (first|exact Pk.here|apply Pk.there)) (by simp) Lle.nil))) (hs:=⟨⟨by show k+1≤l.length;omega,fun _=>by show ((dif q l i x (k+1)).flatMap numC++r1).length=c1*4∧c1<9223372036854775808;rw[hd];exact⟨by simpa using a1,a2⟩⟩,by show l.length - (k+1)<l.length - k;omega⟩)
  · have hk2:k=l.length:=by omega
    subst hk2
    repeat (first|refine Ta ?_|(refine Tm ?_;intro _)|refine Tc ?_|exact Tz)
    refine WC.dF rfl (by omega) ?_
    repeat (first|refine Ta ?_|(refine Tm ?_;intro _)|refine Tc ?_|exact Tz)
    exact WX.retP_of (resP1 rfl (by exact rv_tmp rfl)) (Lle.cons (.there .here) rfl (Lle.skip Lle.same)) ⟨g0,c0,r0,rfl,rfl⟩
end
end Sx
end Go.Proofs.YtiiacjladnljhaaGreatDoor
namespace Go.Proofs.YtiiacjladnljhaaGreatDoor
open Go Go.RowKit Go.BigFrame
namespace Sx
section
variable {P:Program} {w0:World} {gs:List Nat} {n:Nat} {ops:List Oper} {Q:Exit→Act→World→Prop} {K:List (Nat × Value)} {L L' : List Ent} {rest:List Oper}
theorem WC.permL {c:Code} (hp:L.Perm L') (k:WC P w0 gs n c Q K L'):WC P w0 gs n c Q K L:=fun a w h1 h2 h3 h4=>k a w h1 h2 h3 (h4.perm hp)
theorem WO.permL (hp:L.Perm L') (k:WO P w0 gs n ops Q K L' rest):WO P w0 gs n ops Q K L rest:=fun a w h1 h2 h3 h4=>k a w h1 h2 h3 (h4.perm hp)
theorem WX.permL {e:Exit} (hp:L.Perm L') (k:WX w0 gs n e Q K L'):WX w0 gs n e Q K L:=fun a w h1 h2 h3 h4=>k a w h1 h2 h3 (h4.perm hp)
theorem WO.dropL (hp:L'.Sublist L) (k:WO P w0 gs n ops Q K L' rest):WO P w0 gs n ops Q K L rest:=fun a w h1 h2 h3 h4=>k a w h1 h2 h3 (h4.sub hp)
end
theorem mkz_snoc (n:Nat) (z:List Value):mkz (n+1) z=mkz n z++z:=by
  unfold mkz
  rw[List.replicate_succ',List.flatten_append];simp
theorem mkz_add (n m:Nat) (z:List Value):mkz (n+m) z=mkz n z++mkz m z:=by
  unfold mkz
  rw[← List.replicate_append_replicate,List.flatten_append]
theorem mkz_1z (z:List Value):mkz 1 z=z:=by simp[mkz]
theorem over_mark {M cs:List Value} {k:Nat}:over (mkz k M++cs.drop (k*M.length)) (k*M.length) M=mkz (k+1) M++cs.drop ((k+1)*M.length):=by
  have e:=over_end (xs:=mkz k M) (r:=cs.drop (k*M.length)) (ys:=M)
  rw[mkz_length] at e
  rw[e,List.drop_drop,mkz_snoc,Nat.succ_mul]
structure HE where
  b:Option Nat
  n:Nat
  c:Nat
  cs:List Value
  m:Nat
def HE.v (e:HE):Value:=.slice (e.b.map fun b=>⟨b,0,none⟩) e.n e.c
def HE.L (T:Nat) (e:HE):List Ent:=match e.b with|none=>[]|some b=>[⟨b,T,e.cs⟩]
def HE.row (e:HE):List Value:=[e.v,.slice none 0 0,.int .i64 (e.m:Int)]
structure HE.ok (z:Nat) (e:HE):Prop where
  nil:e.b=none→e.n=0∧e.c=0
  le:e.n≤e.c
  room:e.c≤e.n+1
  most:e.n≤100
  len:e.cs.length=e.c*z
  mark:e.m<1000
def HE.fill (M:Nat→List Value) (e:HE):HE:={ e with cs:=mkz e.n (M e.m)++e.cs.drop (e.n*(M e.m).length) }
inductive GS where
  | A:GS
  | B:Nat→Nat→List Value→List Value→GS
def gsV (e:HE):GS→Nat→Value
  | .A,j=>.slice (e.b.map fun b=>⟨b,0,none⟩) (e.n+j) e.c
  | .B g c _ _,j=>.slice (some ⟨g,0,none⟩) (e.n+j) c
def gsL (T:Nat) (M:List Value) (e:HE):GS→Nat→List Ent
  | .A,j=>(match e.b with|none=>[]|some b=>[⟨b,T,mkz (e.n+j) M++e.cs.drop ((e.n+j)*M.length)⟩])
  | .B g _ r cs,j=>⟨g,T,mkz (e.n+j) M++r⟩::(match e.b with|none=>[]|some b=>[⟨b,T,mkz e.n M++cs⟩])
def gsOk (M:List Value) (e:HE):GS→Nat→Prop
  | .A,j=>e.n+j≤e.c
  | .B _ c r _,j=>(mkz (e.n+j) M++r).length=c*M.length∧c<9223372036854775808∧e.n+j≤c
section
variable {P:Program} {w0:World} {gs:List Nat} {n:Nat} {ops:List Oper} {Q:Exit→Act→World→Prop} {K:List (Nat × Value)} {L:List Ent} {rest:List Oper}
variable {d:Nat} {ty:TypeId} {pos:String} {after:Array Edge} {gd:Option (Nat × Bool)}
theorem WO.appG {e:HE} {s:GS} {j st xt T size bts gy t2 cy zz:Nat} {z M:List Value} {R:List Ent} {x y:Operand} [SlT P st T size] [SlT P xt T size] [ElT P T bts z] (hs:size=z.length) (hM:M.length=z.length) (hM1:M.all Value.oneCell'=true) (hx:ev K x=some (gsV e s j)) (hy:ev K y=some (.slice (some ⟨gy,0,none⟩) 1 cy))
    (hp:L.Perm (⟨gy,t2,M⟩::(gsL T M e s j++R))) (ho:gsOk M e s j) (he:e.ok zz) (hzz:zz=z.length) (hj:j<40) (hb:bts≠0) (hb2:bts≤4096) (hT:T≠0)
    (k:∀ s',gsOk M e s' (j+1)→WO P w0 gs n ops Q ((d,gsV e s' (j+1))::K) (gsL T M e s' (j+1)++R) rest) (hd:Nat.blt d n=true:=by rfl) (hw:wk ops K gd=some true:=by rfl) :
    WO P w0 gs n ops Q K L (⟨some d,.call { callee:=.builtin .append,args:=#[x,y],argTypes:=#[st,xt] },ty,pos,after,gd⟩::rest):=by
  subst hzz
  have hmost:=he.most
  have hbb:∀ m,m≤200→m*bts≤140737488355328:=fun m hm=>by
    have:m*bts≤200*4096:=Nat.mul_le_mul hm hb2
    omega
  refine WO.permL hp ?_
  have hr:∀ {L1:List Ent},Rds w0 gs (⟨gy,t2,M⟩::L1) (.slice (some ⟨gy,0,none⟩) 1 cy) 1 M:=fun {L1}=>Rds.own (m:=M.length) Hs.here (by unfold cut;rw[List.drop_zero,List.take_of_length_le (Nat.le_refl _)])
  cases s with
  | A =>
    obtain⟨b,m,c,cs,mm⟩:=e
    cases b with
    | none =>
      obtain⟨h1,h2⟩:=he.nil rfl
      simp only at h1 h2
      subst h1 h2
      have hj0:j=0:=by have:0+j≤0:=ho;omega
      subst hj0
      refine WO.appN (z:=z) (m:=1) hs hx hy hr (by rw[hM,Nat.one_mul]) (by omega) (by omega) (hbb 1 (by omega)) hb (fun g' c' r' a1 a2 a3=>?_) hd hw
      refine WO.dropL ?_ (k (.B g' c' r' []) ⟨?_,a2,a3⟩)
      · show List.Sublist (⟨g',T,mkz 1 M++r'⟩::R) _
        rw[mkz_1z]
        exact .cons_cons _ (.cons _ (.refl _))
      · show (mkz 1 M++r').length=_
        rw[mkz_1z,a1,hM]
    | some b =>
      have hle:m+j≤c:=ho
      have hx2:ev K x=some (.slice (some ⟨b,0,none⟩) (m+j) c):=hx
      have hmost:m≤100:=hmost
      have hroom:c≤m+1:=he.room
      have hlen:cs.length=c*z.length:=he.len
      by_cases hlt:m+j<c
      · have hov:over (mkz (m+j) M++cs.drop ((m+j)*M.length)) ((m+j)*z.length) M=mkz (m+j+1) M++cs.drop ((m+j+1)*M.length):=by rw[← hM];exact over_mark
        have h1:(m+j)*z.length+M.length≤(mkz (m+j) M++cs.drop ((m+j)*M.length)).length:=by
          rw[List.length_append,mkz_length,List.length_drop,hlen,hM]
          have:(m+j+1)*z.length≤c*z.length:=Nat.mul_le_mul_right _ hlt
          rw[Nat.succ_mul] at this
          omega
        have hk:=k .A (by show m+(j+1)≤c;omega)
        refine WO.both (app_room (s:=undef) (z:=z) (g:=b) (t:=T) (L':=⟨gy,t2,M⟩::⟨b,T,mkz (m+j+1) M++cs.drop ((m+j+1)*M.length)⟩::R) hx2 hy hr (by rw[hM,Nat.one_mul]) hlt hM1 (.there .here) hov h1 hs hT) ?_ hd hw
        exact WO.dropL (.cons _ (.refl _)) hk
      · have hc:c=m+j:=by omega
        subst hc
        have h0:cs.drop ((m+j)*M.length)=[]:=List.drop_of_length_le (by rw[hlen,hM];exact Nat.le_refl _)
        refine WO.news (app_new (z:=z) (n:=1) hx2 hy (ys:=mkz (m+j) M) (Rds.own (m:=(m+j)*M.length) (.there .here) (by show cut (mkz (m+j) M++cs.drop ((m+j)*M.length)) 0 _=_;rw[h0,List.append_nil];unfold cut;rw[List.drop_zero,List.take_of_length_le (by rw[mkz_length];exact Nat.le_refl _)])) (by rw[mkz_length,hM]) hr (by rw[hM,Nat.one_mul]) (by omega) (by omega) (growslice_fits (by omega) (hbb _ (by omega))) hb hs) (fun s hs=>?_) hd hw
        have e1:(mkz (m+j+1) M++mkz (s 1 - (m+j+1)) z).length=s 1*M.length:=by
          rw[List.length_append,mkz_length,mkz_length,hM,← Nat.add_mul]
          congr 1
          have:=hs.1
          omega
        have hk:=k (.B (s 0) (s 1) (mkz (s 1 - (m+j+1)) z) (mkz j M)) ⟨e1,hs.2,by show m+(j+1)≤s 1;have:=hs.1;omega⟩
        refine WO.dropL ?_ hk
        show List.Sublist (⟨s 0,T,mkz (m+(j+1)) M++mkz (s 1 - (m+j+1)) z⟩::⟨b,T,mkz m M++mkz j M⟩::R) (⟨s 0,T,mkz (m+j) M++M++mkz (s 1 - (m+j+1)) z⟩::⟨gy,t2,M⟩::⟨b,T,mkz (m+j) M++cs.drop ((m+j)*M.length)⟩::R)
        rw[h0,List.append_nil,← mkz_add,← Nat.add_assoc,mkz_snoc]
        exact .cons_cons _ (.cons _ (.refl _))
  | B g c r cs =>
    obtain⟨h1,h2,h3⟩:=ho
    have hmj:e.n+j≤140:=by omega
    refine WO.appK (z:=z) (m:=1) (l:=e.n+j+1) hs hx hy (xs:=mkz (e.n+j) M) (r:=r) (by rw[mkz_length,hM]) (by rw[h1,hM]) (.there .here) hr (by rw[hM,Nat.one_mul]) hM1 rfl (by omega) h2 (hbb _ (by omega)) hb hT (fun g' c' r' a1 a2 a3=>?_) hd hw
    have hk:=k (.B g' c' r' cs) ⟨by show (mkz (e.n+j+1) M++r').length=_;rw[mkz_snoc,a1,hM],a2,a3⟩
    refine WO.dropL ?_ hk
    have e3:mkz (e.n+j+1) M=mkz (e.n+j) M++M:=mkz_snoc _ _
    show List.Sublist (Ent.mk g' T (mkz (e.n+j+1) M++r')::_) _
    rw[e3]
    exact .cons_cons _ (.cons _ (.refl _))
end
end Sx
end Go.Proofs.YtiiacjladnljhaaGreatDoor
namespace Go.Proofs.YtiiacjladnljhaaGreatDoor
open Go Go.RowKit Go.BigFrame
namespace Sx
section
variable {β:Type} {A A' B:Nat→List β} {n i:Nat}
def stL (A B:Nat→List β) (n i:Nat):List β:=(List.range n).flatMap fun k=>if k<i then A k else B k
def stR (A B:Nat→List β) (n i:Nat):List β:=(List.range i).flatMap A++(List.range' (i+1) (n - (i+1))).flatMap B
theorem flat_congr {α β:Type} {f g:α→List β}:∀ {l:List α},(∀ x∈l,f x=g x)→l.flatMap f=l.flatMap g
  | [],_=>rfl
  | a::r,h=>by rw[List.flatMap_cons,List.flatMap_cons,h a (by simp),flat_congr (fun x hx=>h x (by simp[hx]))]
theorem range_split (h:i<n):List.range n=List.range i++i::List.range' (i+1) (n - (i+1)):=by
  rw[List.range_eq_range',List.range_eq_range']
  have e1:List.range' 0 n=List.range' 0 i++List.range' i (n - i):=by
    have:=List.range'_append (s:=0) (m:=i) (n:=n - i) (step:=1)
    rw[Nat.zero_add,Nat.one_mul,show i+(n - i)=n by omega] at this
    exact this.symm
  have e2:List.range' i (n - i)=i::List.range' (i+1) (n - (i+1)):=by
    rw[show n - i=(n - (i+1))+1 by omega]
    rfl
  rw[e1,e2]
theorem stL_at (h:i<n):stL A B n i=(List.range i).flatMap A++(B i++(List.range' (i+1) (n - (i+1))).flatMap B):=by
  unfold stL
  rw[range_split h,List.flatMap_append,List.flatMap_cons,if_neg (Nat.lt_irrefl i)]
  congr 1
  · exact flat_congr fun x hx=>if_pos (List.mem_range.1 hx)
  · congr 1
    exact flat_congr fun x hx=>if_neg (by have:=(List.mem_range'_1.1 hx).1;omega)
theorem stL_next (h:i<n):stL A B n (i+1)=(List.range i).flatMap A++(A i++(List.range' (i+1) (n - (i+1))).flatMap B):=by
  unfold stL
  rw[range_split h,List.flatMap_append,List.flatMap_cons,if_pos (Nat.lt_succ_self i)]
  congr 1
  · exact flat_congr fun x hx=>if_pos (Nat.lt_succ_of_lt (List.mem_range.1 hx))
  · congr 1
    exact flat_congr fun x hx=>if_neg (by have:=(List.mem_range'_1.1 hx).1;omega)
theorem stL_zero:stL A B n 0=(List.range n).flatMap B:=flat_congr fun _ _=>if_neg (Nat.not_lt_zero _)
theorem stL_full:stL A B n n=(List.range n).flatMap A:=flat_congr fun _ hx=>if_pos (List.mem_range.1 hx)
theorem stL_perm (h:i<n):(stL A B n i).Perm (B i++stR A B n i):=by
  rw[stL_at h]
  unfold stR
  rw[← List.append_assoc,← List.append_assoc]
  exact List.Perm.append_right _ List.perm_append_comm
theorem stL_perm1 (h:i<n):(stL A B n (i+1)).Perm (A i++stR A B n i):=by
  rw[stL_next h]
  unfold stR
  rw[← List.append_assoc,← List.append_assoc]
  exact List.Perm.append_right _ List.perm_append_comm
theorem stR_congr (h:∀ k,k<i→A k=A' k):stR A B n i=stR A' B n i:=by
  unfold stR
  rw[flat_congr fun x hx=>h x (List.mem_range.1 hx)]
end
theorem stL_congr {β:Type} {A A' B:Nat→List β} {n i:Nat} (h:∀ k,k<i→A k=A' k):stL A B n i=stL A' B n i:=by
  unfold stL
  exact flat_congr fun x _=>by by_cases hx:x<i<;>simp[hx,h]
theorem perm3 {a b c:Ent} {X R:List Ent}:(a::b::c::(X++R)).Perm (X++(a::b::c::R)):=by
  have:([a,b,c]++X++R).Perm (X++[a,b,c]++R):=List.Perm.append_right _ List.perm_append_comm
  simpa using this
theorem cut_mkz {n k z:Nat} {M:List Value} (hM:M.length=z) (h:k<n):cut (mkz n M) (k*z) z=M:=by
  subst hM
  have e:mkz n M=mkz k M++(M++mkz (n - k - 1) M):=by
    rw[show n=k+1+(n - k - 1) by omega,mkz_add,mkz_snoc,List.append_assoc]
    congr 3
    omega
  rw[e]
  unfold cut
  rw[← mkz_length k M,List.drop_left,List.take_left]
theorem over_st {X Y:Nat→List Value} {n i:Nat} {a u v c:Value} {r:List Value} (h:i<n) (hX:∀ k,(X k).length=3) (hx:X i=[a,v,c]) (hy:Y i=[a,u,c]):over (stL X Y n i++r) (i*3+1) [v]=stL X Y n (i+1)++r:=by
  rw[stL_at h,stL_next h,hx,hy]
  have hl:((List.range i).flatMap X++[a]).length=i*3+1:=by rw[List.length_append,flat_length hX,List.length_range];rfl
  have e:=over_end (xs:=(List.range i).flatMap X++[a]) (r:=[u,c]++(List.range' (i+1) (n - (i+1))).flatMap Y++r) (ys:=[v])
  rw[hl] at e
  simp only[List.append_assoc,List.cons_append,List.nil_append,List.length_cons,List.length_nil,List.drop_succ_cons,List.drop_zero] at e ⊢
  exact e
theorem stL_len3 {X Y:Nat→List Value} {n i:Nat} (hX:∀ k,(X k).length=3) (hY:∀ k,(Y k).length=3):(stL X Y n i).length=n*3:=by
  unfold stL
  rw[flat_length (k:=3) (fun k=>by by_cases hk:k<i<;>simp[hk,hX,hY]),List.length_range]
theorem cut_st {X Y:Nat→List Value} {n i:Nat} {r:List Value} (h:i<n) (hX:∀ k,(X k).length=3) (hY:∀ k,(Y k).length=3):cut (stL X Y n i++r) (i*3) 3=Y i:=by
  have hl:((List.range i).flatMap X).length=i*3:=by rw[flat_length hX,List.length_range]
  rw[stL_at h]
  unfold cut
  rw[List.append_assoc,← hl,List.drop_left,List.append_assoc,← hY i,List.take_left]
theorem cut_st0 {Y:Nat→List Value} {n i:Nat} {r:List Value} (h:i<n) (hY:∀ k,(Y k).length=3):cut ((List.range n).flatMap Y++r) (i*3) 3=Y i:=by
  have:=cut_st (X:=Y) (Y:=Y) (r:=r) h hY hY
  unfold stL at this
  simpa using this
theorem Pks.app {M R:List Ent}:Pks (M++R) M R:=by
  induction M with
  | nil=>exact .nil
  | cons e r ih=>exact .cons .here ih
section
variable {P:Program} {w0:World} {gs:List Nat} {n:Nat} {ops:List Oper} {Q:Exit→Act→World→Prop} {K:List (Nat × Value)} {L L' : List Ent} {rest:List Oper}
theorem WX.dropL {e:Exit} (hp:L'.Sublist L) (k:WX w0 gs n e Q K L'):WX w0 gs n e Q K L:=fun a w h1 h2 h3 h4=>k a w h1 h2 h3 (h4.sub hp)
end
end Sx
end Go.Proofs.YtiiacjladnljhaaGreatDoor
namespace Go.Proofs.YtiiacjladnljhaaGreatDoor
open Go Go.RowKit Go.BigFrame
namespace Sx
attribute [local irreducible] wd DQ DQS WO WC WX
theorem RdF.modG {α:Type} {f:α→List Value} {pt:Option Addr} {n c:Nat} {xs:List α} {w w' : World} {gs:List Nat} (h:RdF f (.slice pt n c) xs w) (hm:Mod gs w w') (hb:∀ b o,pt=some ⟨b,o,none⟩→xs≠[]→b ∉ gs):RdF f (.slice pt n c) xs w':=by
  obtain⟨pt',c',e,h⟩:=h
  cases e
  by_cases hx:xs=[]
  · refine⟨_,_,rfl,?_⟩
    rcases h with h|⟨b,o,e,hs⟩
    · exact .inl h
    · exact .inr ⟨b,o,e,by subst hx;intro i v hv;simp at hv⟩
  · refine⟨_,_,rfl,h.imp id (fun ⟨b,o,e,hs⟩=>⟨b,o,e,hs.mod hm (hb b o e hx)⟩)⟩
theorem nrV_slice (g c n:Nat):∃ pt c',nrV g c n n=.slice pt n c'∧((n=0∧pt=none)∨pt=some ⟨g,0,none⟩):=by
  cases n with
  | zero=>exact⟨none,0,rfl,.inl ⟨rfl,rfl⟩⟩
  | succ n=>exact⟨_,c,rfl,.inr rfl⟩
theorem nrL_pos {g:Nat} {D:List Nat} {r:List Value} (h:D≠[]):nrL g D r D.length=[⟨g,24,D.flatMap numC++r⟩]:=by
  cases D with
  | nil=>exact absurd rfl h
  | cons a l=>rfl
theorem rd_nr {w0 w:World} {gs:List Nat} {L:List Ent} {gD cD' : Nat} {ptD:Option Addr} {D:List Nat} {rD:List Value} {gF:Nat} (hm:Mr w0 gs L w) (hpt:(D.length=0∧ptD=none)∨ptD=some ⟨gD,0,none⟩) (hL:D≠[]→Hs L gD 24 (D.flatMap numC++rD)) (hne:D≠[]→gD ∉ [gF]) :
    RdF numC (.slice ptD D.length cD') D w∧∀ b o,ptD=some ⟨b,o,none⟩→D≠[]→b ∉ [gF]:=by
  by_cases hD:D=[]
  · subst hD
    refine⟨⟨ptD,cD',rfl,?_⟩,fun b o _ h=>absurd rfl h⟩
    rcases hpt with ⟨_,h⟩|h
    · exact .inl ⟨h,rfl⟩
    · exact .inr ⟨gD,0,h,fun i v hv=>by simp at hv⟩
  · have hp2:ptD=some ⟨gD,0,none⟩:=hpt.resolve_left (fun h=>hD (List.length_eq_zero_iff.1 h.1))
    subst hp2
    refine⟨RdF.seg (r:=rD) (Hs.seg (hL hD) hm),fun b o e _=>?_⟩
    cases e
    exact hne hD
section
variable (p q g h gF:Nat)
set_option maxHeartbeats 2000000 in
theorem c_weight (l:List Nat) (pt:Option Addr) (c i li:Nat) (e:Int) (h1:1<q) (hl:∀ y∈l,y<q) (hn:l.length≤1000) (hli:l[i]?=some li) (hq:q<B256) :
    FnM Tryz.prog 189 [Sx.pt gF,.slice pt l.length c,.int .i64 (i:Int)] gF 253 (fdC p q g h e) (fdC p q g h (kE e (iE (prM q 1 (dif q l i li l.length)) q))) (fun w=>RdF numC (.slice pt l.length c) l w∧∀ b o,pt=some ⟨b,o,none⟩→l≠[]→b ∉ [gF])
      (numV (invN (prM q 1 (dif q l i li l.length)) q)):=by
  have hil:i<l.length:=by
    rcases Nat.lt_or_ge i l.length with h|h
    · exact h
    · rw[List.getElem?_eq_none h] at hli;cases hli
  have hlq:=hl li (List.mem_of_getElem? hli)
  have hOf:=c_ScOf p q g h 1 (by decide) hq
  rw[show ofZ q ((1:Nat):Int)=1 by rw[ofZ_nat q 1 (by omega),Nat.mod_eq_of_lt h1]] at hOf
  have hOth:=c_others p q g h gF l pt c i li e h1 hl hlq hn (by omega) hq
  have hdl:=dif_lt (q:=q) (l:=l) (i:=i) (x:=li) (k:=l.length) (by omega)
  have hdn:=dif_len (q:=q) (l:=l) (i:=i) (x:=li) (k:=l.length)
  generalize dif q l i li l.length=D at *
  have hGa:=fun pt c=>c_gatherT p q g h gF D pt c 1 e h1 h1 hdl (by omega) hq
  have hUn:=c_under1 p q g h gF (prM q 1 D) e h1 (prM_lt (by omega) h1 D) hq
  generalize prM q 1 D=M at *
  generalize invN M q=I at *
  generalize iE M q=E at *
  refine FnM.enter Tryz.func189 rfl rfl rfl ?_
  intro w hw
  obtain⟨hwl,hout⟩:=hw
  obtain⟨b,o,rfl,_,hs⟩:=RdF.get hwl hli
  have hb:b ∉ [gF]:=hout b o rfl (by rintro rfl;simp at hli)
  have hcx:cut (l.flatMap numC) (o+i*4 - o) 4=numC li:=by rw[Nat.add_sub_cancel_left];exact cut_flatP (f:=numC) (k:=4) (fun _=>rfl) hli
  repeat (first|refine Ta ?_|(refine Tm ?_;intro _)|refine Tc ?_|exact Tz)
  rename_i gR
  refine WC.mains [4,5,13,16,17,18] [(0,Sx.pt gF),(1,Sx.pt gF),(2,Sx.pt gF),(3,Sx.pt gF),(6,Sx.pt gF),(7,.slice (some ⟨b,o,none⟩) l.length c),(8,.int .i64 (i:Int)),(9,.slice (some ⟨b,o,none⟩) l.length c),(10,.int .i64 (i:Int)),(11,.pointer (some ⟨b,o+i*4,none⟩)),(12,numV li),(14,Sx.pt gF),(15,.func (.func 191) #[Sx.pt gF] #[])] (by decide) ?_
  refine WM.with [] (by kernel_rfl) (Tls.auto (Tls.auto (Tls.auto (Tls.auto (Tls.auto (Tls.auto (Tls.auto (Tls.auto (Tls.auto (Tls.cons rfl (does_indexSlice (o':=o+i*4) rfl rfl hil rfl) (Tls.cons rfl (a_loadF (vs:=numC li) (hs:=hs) (hle:=Nat.le_add_right _ _) (hb:=hb) (hc:=hcx)) (Tls.auto (Tls.auto Tls.nil))))))))))))) (fun hc hT=>?_)
  refine WM.step (m:=4) rfl rfl hc hT ?_
  refine WO.does (a_load (vs:=grpC p q g h)) ?_
  refine WO.nil (WX.wm [(11,grpV p q g h)] ?_)
  refine WM.step (m:=5) rfl rfl hc hT ?_
  refine WO.acall (hc:=hOf) (k:=?_)
  refine WO.nil (WX.wm [(12,numV 1)] ?_)
  refine WM.step (m:=13) rfl rfl hc hT ?_
  refine WO.callsL (hc:=hOth) (hp:=.cons (by repeat (first|exact Pk.here|apply Pk.there)) .nil) (fun w1 hm=>⟨hwl.modG hm.mod hout,hout⟩) (fun v N hv=>?_)
  obtain⟨gD,cD,rD,rfl,rfl⟩:=hv
  obtain⟨ptD,cD',hv,hpt⟩:=nrV_slice gD cD D.length
  rw[hv]
  rw[List.cons_append]
  refine WO.permL (List.Perm.cons _ List.perm_append_comm) ?_
  rw[List.singleton_append]
  refine WO.nil (WX.wm [(20,.slice ptD D.length cD')] ?_)
  refine WM.step (m:=16) rfl rfl hc hT ?_ (hl0:=Lle.nil)
  refine WO.ndp (fun hnd=>?_)
  refine WO.callM rfl (hGa ptD cD') (by repeat (first|exact Rp.here|apply Rp.there)) (fun w1 hm=>rd_nr hm hpt (fun h=>by rw[nrL_pos h];exact .there (.there .here)) (fun h=>by rw[nrL_pos h] at hnd;simp at hnd ⊢;exact fun e=>hnd.1.2 e.symm)) (by decide) ?_ rfl rfl
  refine WO.nil (WX.wm [(23,numV M)] ?_)
  refine WM.step (m:=17) rfl rfl hc hT ?_ (hl0:=Lle.nil)
  refine WO.callM rfl hUn (by repeat (first|exact Rp.here|apply Rp.there)) (fun _ _=>trivial) (by decide) ?_ rfl rfl
  refine WO.nil (WX.wm [(24,numV I)] ?_)
  refine WM.step (m:=18) rfl rfl hc hT ?_ (hl0:=Lle.nil)
  refine WO.autoS (k:=?_)
  refine WO.nil (WX.wm [] ?_)
  refine WM.fin (m:=18) hc rfl rfl (by rfl) ?_
  clear hc hT
  repeat (first|refine Ta ?_|(refine Tm ?_;intro _)|refine Tc ?_|exact Tz)
  exact WX.retM_of (res1 rfl a_rvc) .here
end
end Sx
end Go.Proofs.YtiiacjladnljhaaGreatDoor
namespace Go.Proofs.YtiiacjladnljhaaGreatDoor
open Go Go.RowKit Go.BigFrame
namespace Sx
attribute [local irreducible] wd DQ DQS WO WC WX
def agV (g c n:Nat):Nat→Value
  | 0=>.slice none 0 0
  | _+1=>.slice (some ⟨g,0,none⟩) n c
end Sx
end Go.Proofs.YtiiacjladnljhaaGreatDoor
namespace Go.Proofs.YtiiacjladnljhaaGreatDoor
open Go Go.RowKit Go.BigFrame
namespace Sx
attribute [local irreducible] wd DQ DQS WO WC WX
section
variable {w0:World} {gs:List Nat} {K:List (Nat × Value)} {L:List Ent}
theorem a_eqNumV {x y:Operand} {yt ty:TypeId} {a b:Nat} {r:Bool} (hx:ev K x=some (numV a)) (hy:ev K y=some (numV b)) (ha:a<B256) (hb:b<B256) (hr:decide (a=b)=r) :
    Does Tryz.prog w0 gs K L (.binOp .eql 24 x y yt) ty (.bool r):=by
  subst hr
  exact a_eqNum (hx:=hx) (hy:=hy) (ha:=ha) (hb:=hb)
end
end Sx
end Go.Proofs.YtiiacjladnljhaaGreatDoor
namespace Go.Proofs.YtiiacjladnljhaaGreatDoor
open Go Go.RowKit Go.BigFrame
namespace Sx
attribute [local irreducible] wd DQ DQS WO WC WX
end Sx
end Go.Proofs.YtiiacjladnljhaaGreatDoor
namespace Go.Proofs.YtiiacjladnljhaaGreatDoor
open Go Go.RowKit Go.BigFrame
namespace Sx
attribute [local irreducible] wd DQ DQS WO WC WX
theorem RdF.rdK {v:Value} {N:List (Nat × Nat)} {w:World} (h:RdF keyC v N w):RdK v N w:=h
end Sx
end Go.Proofs.YtiiacjladnljhaaGreatDoor
namespace Go.Proofs.YtiiacjladnljhaaGreatDoor
open Go Go.RowKit Go.BigFrame
namespace Sx
attribute [local irreducible] wd DQ DQS WO WC WX
section
variable {α:Type} {f:Nat→α} {F:α→List Value} {k:Nat} {z:List Value} {i n:Nat}
theorem range_get (h:i<n):((List.range n).map f)[i]?=some (f i):=by simp[h]
theorem over_range (hk:∀ x,(F x).length=k) (hz:z.length=k) (h:i<n):over (((List.range i).map f).flatMap F++mkz (n - i) z) (0+i*k) (F (f i))=((List.range (i+1)).map f).flatMap F++mkz (n - (i+1)) z:=by
  have htk:∀ j,j≤n→((List.range n).map f).take j=(List.range j).map f:=fun j hj=>by rw[← List.map_take,List.take_range,Nat.min_eq_left hj]
  have:=over_twin (f:=F) (z:=z) (m:=n - i) hk hz (range_get (f:=f) h) (by omega)
  rw[htk i (by omega),htk (i+1) (by omega),hz,show n - i - 1=n - (i+1) by omega] at this
  rw[Nat.zero_add];exact this
theorem len_range (hk:∀ x,(F x).length=k) (hz:z.length=k) (h:i<n):Nat.ble (0+i*k+k) (((List.range i).map f).flatMap F++mkz (n - i) z).length=true:=by
  rw[Nat.ble_eq,List.length_append,flat_length hk,mkz_length,List.length_map,List.length_range,hz,Nat.zero_add]
  have:1*k≤(n - i)*k:=Nat.mul_le_mul_right _ (by omega)
  omega
end
end Sx
end Go.Proofs.YtiiacjladnljhaaGreatDoor
