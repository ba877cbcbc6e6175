/- Part 41 of the proof: DfD, DeD, DfE -/
import Derived.Test.YtmhligfnchegdaaGreatDoorM40
import Derived.Test.YtmhligfnchegdaaGreatDoorM39
set_option linter.unusedSimpArgs false
set_option linter.unusedVariables false
namespace Go.Proofs.YtmhligfnchegdaaGreatDoor
open Go Go.RowKit Go.BigFrame
namespace Sx
attribute [local irreducible] wd DQ DQS WO WC WX
section
open Kp
variable {P:Program} {w0:World} {gs:List Nat} {n:Nat} {fl:List Nat} {Q:Exit→Act→World→Prop} {ops:List Oper} {L0:List Ent}
variable {tail rest:List Oper} {i:Nat} {C:Nums→Prop} {K:Nums→List (Nat × Value)} {N:Nums→List (Nat × Ent)}
variable {d:Nat} {op:Op} {ty:TypeId} {pos:String} {after:Array Edge} {gd:Option (Nat × Bool)}
theorem DQ.acallZE {f:FuncId} [Cal P f] {xs:Array Operand} {ats:Array TypeId} {vs:Nums→List Value} {Rq:Nums→World→Prop} {t:Nat} {X:List Nat} (E:Nums→List Ent) (hE:∀ s,Vs ops i (N s) (E s)) (hc:∀ s,C s→Fn P f (vs s) (Rq s) (NewZ t X)) (hR:∀ s,C s→∀ w,Mr w0 gs (E s++L0) w→Rq s w) (hX:X.length<9223372036854775808) (ha:∀ s,evs (K s) xs.toList=some (vs s))
    (k:DQ P w0 gs n fl Q ops L0 tail (i+1) rest (fun s=>C s∧((X++rz (s i)).length=s i 1∧s i 1<9223372036854775808)) (fun s=>(d,.slice (some ⟨s i 0,0,none⟩) X.length (s i 1))::K s) (fun s=>(i,⟨s i 0,t,byC (X++rz (s i))⟩)::N s))
    (hfl:fl.contains i=false:=by rfl) (hw:∀ s,wk ops (K s) gd=some true:=by intro _;rfl) (hd:Nat.blt d n=true:=by rfl) :
    DQ P w0 gs n fl Q ops L0 tail i (⟨some d,.call { callee:=.value (.func f),args:=xs,argTypes:=ats },ty,pos,after,gd⟩::rest) C K N :=
  DQ.callsE (fs:=fun _=>[]) (cs:=fun _=>[]) (R:=Rq) (vf:=fun _ x=>.slice (some ⟨x 0,0,none⟩) X.length (x 1)) (Nf:=fun _ x=>[⟨x 0,t,byC (X++rz x)⟩]) (S:=fun _ x=>(X++rz x).length=x 1∧x 1<9223372036854775808) E hE
    (fun _=>⟨zr 0 X.length [],by show (X++rz (zr 0 X.length [])).length=X.length∧X.length<9223372036854775808;rw[rz_zr];exact⟨by simp,hX⟩⟩) (fun s hC=>(hc s hC).exZ) (fun _=>rfl) ha (fun _=>by simp) hR Dp.const Dp.const Dp.const k hfl hw hd
end
theorem rdp_ownZ {w0 w:World} {gs:List Nat} {L:List Ent} {g t c m:Nat} {X R:List Nat} (hm:Mr w0 gs L w) (h:Hs L g t (byC (X++R))) (h1:(X++R).length=c) (h2:c<9223372036854775808) (h3:X.length=m):RdP (.slice (some ⟨g,0,none⟩) m c) X w:=by
  have:=RdP.own (g:=g) (c:=c) (X:=X) (r:=byC R) (t:=t) hm (by rw[← byC_append];exact h) (by rw[List.length_append] at h1;omega) h2
  rw[h3] at this
  exact this
def zL (g:Nat) (X R:List Nat):Nat→List Ent
  | 0=>[]
  | _+1=>[⟨g,5,byC (X++R)⟩]
theorem zL_pos {g:Nat} {X R:List Nat} {n:Nat} (h:0<n):zL g X R n=[⟨g,5,byC (X++R)⟩]:=by
  obtain⟨k,rfl⟩ : ∃ k,n=k+1:=⟨n - 1,by omega⟩
  rfl
theorem agV_pos {g c m n:Nat} (h:0<n):agV g c m n=.slice (some ⟨g,0,none⟩) m c:=by
  obtain⟨k,rfl⟩ : ∃ k,n=k+1:=⟨n - 1,by omega⟩
  rfl
set_option maxHeartbeats 4000000 in
theorem r15_Hash (ep d:Nat) (sC sS:Nat) (pV pY pP:Option Addr) (cV cY cP:Nat) (V Y:List Nat) (Pr:List (Nat × Nat)) (hep:ep<18446744073709551616) (hd:d<256) (hV:V≠[]) (hY:Y≠[]) (hP:Pr≠[]) (hVl:V.length≤1000) (hYl:Y.length≤1000) (hPl:Pr.length≤1000) :
    Fn Tryz.prog 41 [dlV ep d (.slice pV V.length cV) (.slice pY Y.length cY) (.slice pP Pr.length cP) sC sS]
      (fun w=>RdF numC (.slice pV V.length cV) V w∧RdF numC (.slice pY Y.length cY) Y w∧RdF pfC (.slice pP Pr.length cP) Pr w) (Is (.agg (byC (dHash ep d V Y Pr)).toArray)):=by
  have hP0:=r_Put [] ep 8 0 none (by decide) (by decide) hep (by decide)
  rw[List.nil_append] at hP0
  have hP1:=fun g c=>r_Put (be 8 ep) d 1 c (some ⟨g,0,none⟩) (by decide) (by decide) (by omega) (by rw[be_length];decide)
  have hcd:IntKind.u64.wrap (d:Int)=(d:Int):=u64_in (by omega) (by omega)
  have h8:(be 8 ep).length=8:=be_length _ _
  have h9:(be 8 ep++be 1 d).length=9:=by rw[List.length_append,be_length,be_length]
  have hHl:(hBytes (strB sDealing) [be 8 ep++be 1 d,V.flatMap (be 32),Y.flatMap (be 32),Pr.flatMap be2]).length≤274877906944:=by
    simp only[hBytes,hHead,hBody,List.flatMap_cons,List.flatMap_nil,List.length_append,be_length,strB_length,List.length_nil,flat_be,flat_be2]
    have:sDealing.size=7:=by decide
    omega
  have hO:=fun g1 c1 g2 c2 g3 c3 gA cA gR=>r6_Of sDealing [.slice (some ⟨g1,0,none⟩) 9 c1,.slice (some ⟨g2,0,none⟩) (V.length*32) c2,.slice (some ⟨g3,0,none⟩) (Y.length*32) c3,.slice (some ⟨gA,0,none⟩) (Pr.length*64) cA]
    [be 8 ep++be 1 d,V.flatMap (be 32),Y.flatMap (be 32),Pr.flatMap be2] gR 0 4 dHash_bytes hHl
  rw[show hOf (strB sDealing) [be 8 ep++be 1 d,V.flatMap (be 32),Y.flatMap (be 32),Pr.flatMap be2]=dHash ep d V Y Pr from rfl] at hO
  have hHlen:(byC (dHash ep d V Y Pr)).length=32:=by rw[byC_length];exact hOf_len' _ _
  have hVp:0<V.length:=List.length_pos_iff.2 hV
  have hYp:0<Y.length:=List.length_pos_iff.2 hY
  have hPp:0<Pr.length:=List.length_pos_iff.2 hP
  generalize dHash ep d V Y Pr=H at *
  clear hHl hV hY hP
  refine Fn.enter Tryz.func41 rfl rfl rfl ?_
  intro w hw
  obtain⟨wV,wY,wP⟩:=hw
  repeat (first|refine Ta ?_|(refine Tm ?_;intro _)|refine Tc ?_|exact Tz)
  rename_i gD gH
  refine WC.loopI (σ:=Nat × Nat × Nat × List Nat) (fun s=>s.1≤V.length∧(0<s.1→(((V.take s.1).flatMap (be 32))++s.2.2.2).length=s.2.2.1∧s.2.2.1<9223372036854775808)) (fun s=>[(1,pt gD),(2,pt gH),(3,agV s.2.1 s.2.2.1 (s.1*32) s.1),(4,.slice none 0 0),(5,.slice none 0 0),(6,.int .i64 (s.1:Int))])
    (fun s=>zL s.2.1 ((V.take s.1).flatMap (be 32)) s.2.2.2 s.1++[⟨gH,82,byC (List.replicate 32 0)⟩,⟨gD,40,dlC ep d (.slice pV V.length cV) (.slice pY Y.length cY) (.slice pP Pr.length cP) sC sS⟩]) (fun s=>V.length - s.1) (0,0,0,[]) (fun s hi=>?_) ⟨Nat.zero_le _,fun h=>absurd h (by decide)⟩
  obtain⟨i,gV,vc,vR⟩:=s
  try dsimp only at hi ⊢
  obtain⟨hi,hr⟩:=hi
  by_cases hlt:i<V.length
  · obtain⟨x,hx⟩ : ∃ x,V[i]?=some x:=⟨_,List.getElem?_eq_getElem hlt⟩
    obtain⟨b,o,rfl,_,hs⟩:=wV.get hx
    have hadd2:IntKind.i64.wrap ((i:Int)+1)=((i+1:Nat):Int):=i64_in' (by omega) (by omega) (by omega)
    have hcx:cut (V.flatMap numC) (o+i*4 - o) 4=numC x:=by rw[Nat.add_sub_cancel_left];exact cut_flat numC_len hx
    have hst:(V.take i).flatMap (be 32)++be 32 x=(V.take (i+1)).flatMap (be 32):=by rw[List.take_add_one,hx];simp
    have hBl:((V.take i).flatMap (be 32)).length=i*32:=by rw[flat_be,List.length_take];omega
    have hBl2:((V.take (i+1)).flatMap (be 32)).length=(i+1)*32:=by rw[flat_be,List.length_take];omega
    generalize hB2:(V.take (i+1)).flatMap (be 32)=B2 at *
    rcases i with _|i
    · have hQ:=r_PutLong [] x 0 none (by decide)
      rw[show []++be 32 x=B2 by rw[← hst];rfl] at hQ
      try dsimp only[agV,zL,List.cons_append,List.nil_append]
      repeat (first|refine Ta ?_|(refine Tm ?_;intro _)|refine Tc ?_|exact Tz)
      refine WC.dT rfl (by omega) ?_
      repeat (first|refine Ta ?_|(refine Tm ?_;intro _)|refine WO.does (does_indexSlice (o':=o+0*4) rfl rfl hlt rfl) ?_|refine WO.does (a_loadF (vs:=numC x) (hs:=hs) (hle:=Nat.le_add_right _ _) (hc:=hcx)) ?_|refine Tc ?_|exact Tz)
      refine WO.acallZ (hc:=hQ) (hR:=fun _ _=>Rd.nil) (hm:=hBl2) (k:=fun g1 c1 r1 h1 h1'=>?_)
      repeat (first|refine Ta ?_|(refine Tm ?_;intro _)|refine WO.does (does_add rfl rfl hadd2) ?_|refine Tc ?_|exact Tz)
      subst hB2
      exact WX.metI (1,g1,c1,r1) (hs:=⟨⟨by show 0+1≤V.length;omega,fun _=>⟨h1,h1'⟩⟩,by show V.length - (0+1)<V.length - 0;omega⟩)
    · obtain⟨h1,h1'⟩:=hr (by omega)
      have hQ:=r_PutLong ((V.take (i+1)).flatMap (be 32)) x vc (some ⟨gV,0,none⟩) (by omega)
      rw[hst] at hQ
      generalize (V.take (i+1)).flatMap (be 32)=B1 at *
      rw[hBl] at hQ
      try dsimp only[agV,zL,List.cons_append,List.nil_append]
      repeat (first|refine Ta ?_|(refine Tm ?_;intro _)|refine Tc ?_|exact Tz)
      refine WC.dT rfl (by omega) ?_
      repeat (first|refine Ta ?_|(refine Tm ?_;intro _)|refine WO.does (does_indexSlice (o':=o+(i+1)*4) rfl rfl hlt rfl) ?_|refine WO.does (a_loadF (vs:=numC x) (hs:=hs) (hle:=Nat.le_add_right _ _) (hc:=hcx)) ?_|refine Tc ?_|exact Tz)
      refine WO.acallZ (hc:=hQ) (hR:=fun w1 hm=>by have:=rd_ownZ hm (by repeat (first|exact Hs.here|apply Hs.there)) h1 h1';rw[hBl] at this;exact this) (hm:=hBl2) (k:=fun g1 c1 r1 h1 h1'=>?_)
      repeat (first|refine Ta ?_|(refine Tm ?_;intro _)|refine WO.does (does_add rfl rfl hadd2) ?_|refine Tc ?_|exact Tz)
      subst hB2
      exact WX.metI (i+1+1,g1,c1,r1) (hs:=⟨⟨by show i+1+1≤V.length;omega,fun _=>⟨h1,h1'⟩⟩,by show V.length - (i+1+1)<V.length - (i+1);omega⟩)
  have hi2:i=V.length:=by omega
  subst hi2
  clear hlt hi
  obtain⟨v1,v2⟩:=hr hVp
  rw[List.take_length] at *
  rw[agV_pos hVp,zL_pos hVp]
  have hVB:(V.flatMap (be 32)).length=V.length*32:=flat_be _
  generalize V.flatMap (be 32)=VB at *
  try dsimp only[List.cons_append,List.nil_append]
  repeat (first|refine Ta ?_|(refine Tm ?_;intro _)|refine Tc ?_|exact Tz)
  refine WC.dF rfl (by omega) ?_
  repeat (first|refine Ta ?_|(refine Tm ?_;intro _)|refine Tc ?_|exact Tz)
  refine WC.loopI (σ:=Nat × Nat × Nat × List Nat) (fun s=>s.1≤Y.length∧(0<s.1→(((Y.take s.1).flatMap (be 32))++s.2.2.2).length=s.2.2.1∧s.2.2.1<9223372036854775808)) (fun s=>[(1,pt gD),(2,pt gH),(3,.slice (some ⟨gV,0,none⟩) (V.length*32) vc),(4,agV s.2.1 s.2.2.1 (s.1*32) s.1),(5,.slice none 0 0),(7,.int .i64 (s.1:Int))])
    (fun s=>zL s.2.1 ((Y.take s.1).flatMap (be 32)) s.2.2.2 s.1++[⟨gV,5,byC (VB++vR)⟩,⟨gH,82,byC (List.replicate 32 0)⟩,⟨gD,40,dlC ep d (.slice pV V.length cV) (.slice pY Y.length cY) (.slice pP Pr.length cP) sC sS⟩]) (fun s=>Y.length - s.1) (0,0,0,[]) (fun s hi=>?_) ⟨Nat.zero_le _,fun h=>absurd h (by decide)⟩
  obtain⟨i,gY,yc,yR⟩:=s
  try dsimp only at hi ⊢
  obtain⟨hi,hr⟩:=hi
  by_cases hlt:i<Y.length
  · obtain⟨x,hx⟩ : ∃ x,Y[i]?=some x:=⟨_,List.getElem?_eq_getElem hlt⟩
    obtain⟨b,o,rfl,_,hs⟩:=wY.get hx
    have hadd2:IntKind.i64.wrap ((i:Int)+1)=((i+1:Nat):Int):=i64_in' (by omega) (by omega) (by omega)
    have hcx:cut (Y.flatMap numC) (o+i*4 - o) 4=numC x:=by rw[Nat.add_sub_cancel_left];exact cut_flat numC_len hx
    have hst:(Y.take i).flatMap (be 32)++be 32 x=(Y.take (i+1)).flatMap (be 32):=by rw[List.take_add_one,hx];simp
    have hBl:((Y.take i).flatMap (be 32)).length=i*32:=by rw[flat_be,List.length_take];omega
    have hBl2:((Y.take (i+1)).flatMap (be 32)).length=(i+1)*32:=by rw[flat_be,List.length_take];omega
    generalize hB2:(Y.take (i+1)).flatMap (be 32)=B2 at *
    rcases i with _|i
    · have hQ:=r_PutLong [] x 0 none (by decide)
      rw[show []++be 32 x=B2 by rw[← hst];rfl] at hQ
      try dsimp only[agV,zL,List.cons_append,List.nil_append]
      repeat (first|refine Ta ?_|(refine Tm ?_;intro _)|refine Tc ?_|exact Tz)
      refine WC.dT rfl (by omega) ?_
      repeat (first|refine Ta ?_|(refine Tm ?_;intro _)|refine WO.does (does_indexSlice (o':=o+0*4) rfl rfl hlt rfl) ?_|refine WO.does (a_loadF (vs:=numC x) (hs:=hs) (hle:=Nat.le_add_right _ _) (hc:=hcx)) ?_|refine Tc ?_|exact Tz)
      refine WO.acallZ (hc:=hQ) (hR:=fun _ _=>Rd.nil) (hm:=hBl2) (k:=fun g1 c1 r1 h1 h1'=>?_)
      repeat (first|refine Ta ?_|(refine Tm ?_;intro _)|refine WO.does (does_add rfl rfl hadd2) ?_|refine Tc ?_|exact Tz)
      subst hB2
      exact WX.metI (1,g1,c1,r1) (hs:=⟨⟨by show 0+1≤Y.length;omega,fun _=>⟨h1,h1'⟩⟩,by show Y.length - (0+1)<Y.length - 0;omega⟩)
    · obtain⟨h1,h1'⟩:=hr (by omega)
      have hQ:=r_PutLong ((Y.take (i+1)).flatMap (be 32)) x yc (some ⟨gY,0,none⟩) (by omega)
      rw[hst] at hQ
      generalize (Y.take (i+1)).flatMap (be 32)=B1 at *
      rw[hBl] at hQ
      try dsimp only[agV,zL,List.cons_append,List.nil_append]
      repeat (first|refine Ta ?_|(refine Tm ?_;intro _)|refine Tc ?_|exact Tz)
      refine WC.dT rfl (by omega) ?_
      repeat (first|refine Ta ?_|(refine Tm ?_;intro _)|refine WO.does (does_indexSlice (o':=o+(i+1)*4) rfl rfl hlt rfl) ?_|refine WO.does (a_loadF (vs:=numC x) (hs:=hs) (hle:=Nat.le_add_right _ _) (hc:=hcx)) ?_|refine Tc ?_|exact Tz)
      refine WO.acallZ (hc:=hQ) (hR:=fun w1 hm=>by have:=rd_ownZ hm (by repeat (first|exact Hs.here|apply Hs.there)) h1 h1';rw[hBl] at this;exact this) (hm:=hBl2) (k:=fun g1 c1 r1 h1 h1'=>?_)
      repeat (first|refine Ta ?_|(refine Tm ?_;intro _)|refine WO.does (does_add rfl rfl hadd2) ?_|refine Tc ?_|exact Tz)
      subst hB2
      exact WX.metI (i+1+1,g1,c1,r1) (hs:=⟨⟨by show i+1+1≤Y.length;omega,fun _=>⟨h1,h1'⟩⟩,by show Y.length - (i+1+1)<Y.length - (i+1);omega⟩)
  have hi2:i=Y.length:=by omega
  subst hi2
  clear hlt hi
  obtain⟨y1,y2⟩:=hr hYp
  rw[List.take_length] at *
  rw[agV_pos hYp,zL_pos hYp]
  have hYB:(Y.flatMap (be 32)).length=Y.length*32:=flat_be _
  generalize Y.flatMap (be 32)=YB at *
  try dsimp only[List.cons_append,List.nil_append]
  repeat (first|refine Ta ?_|(refine Tm ?_;intro _)|refine Tc ?_|exact Tz)
  refine WC.dF rfl (by omega) ?_
  repeat (first|refine Ta ?_|(refine Tm ?_;intro _)|refine Tc ?_|exact Tz)
  refine WC.loopI (σ:=Nat × Nat × Nat × List Nat) (fun s=>s.1≤Pr.length∧(0<s.1→(((Pr.take s.1).flatMap be2)++s.2.2.2).length=s.2.2.1∧s.2.2.1<9223372036854775808)) (fun s=>[(1,pt gD),(2,pt gH),(3,.slice (some ⟨gV,0,none⟩) (V.length*32) vc),(4,.slice (some ⟨gY,0,none⟩) (Y.length*32) yc),(5,agV s.2.1 s.2.2.1 (s.1*64) s.1),(8,.int .i64 (s.1:Int))])
    (fun s=>zL s.2.1 ((Pr.take s.1).flatMap be2) s.2.2.2 s.1++[⟨gY,5,byC (YB++yR)⟩,⟨gV,5,byC (VB++vR)⟩,⟨gH,82,byC (List.replicate 32 0)⟩,⟨gD,40,dlC ep d (.slice pV V.length cV) (.slice pY Y.length cY) (.slice pP Pr.length cP) sC sS⟩]) (fun s=>Pr.length - s.1) (0,0,0,[]) (fun s hi=>?_) ⟨Nat.zero_le _,fun h=>absurd h (by decide)⟩
  obtain⟨i,gP,pc,pR⟩:=s
  try dsimp only at hi ⊢
  obtain⟨hi,hr⟩:=hi
  by_cases hlt:i<Pr.length
  · obtain⟨x,hx⟩ : ∃ x,Pr[i]?=some x:=⟨_,List.getElem?_eq_getElem hlt⟩
    obtain⟨b,o,rfl,_,hs⟩:=wP.get hx
    have hadd2:IntKind.i64.wrap ((i:Int)+1)=((i+1:Nat):Int):=i64_in' (by omega) (by omega) (by omega)
    have hcp:cut (Pr.flatMap pfC) (o+i*8 - o) 8=pfC x:=by rw[Nat.add_sub_cancel_left];exact cut_flat pfC_len hx
    have hc1:cut (Pr.flatMap pfC) (o+i*8 - o) 4=numC x.1:=by
      have:=congrArg (List.take 4) hcp
      unfold cut at this ⊢
      rw[List.take_take] at this
      exact this
    have hc2:cut (Pr.flatMap pfC) (o+i*8+4 - o) 4=numC x.2:=by
      have:=congrArg (List.drop 4) hcp
      unfold cut at this ⊢
      rw[List.drop_take,List.drop_drop] at this
      rw[show o+i*8+4 - o=o+i*8 - o+4 by omega]
      exact this
    have hst:(Pr.take i).flatMap be2++(be 32 x.1++be 32 x.2)=(Pr.take (i+1)).flatMap be2:=by rw[List.take_add_one,hx];simp
    have hBl:((Pr.take i).flatMap be2).length=i*64:=by rw[flat_be2,List.length_take];omega
    have hBl2:((Pr.take (i+1)).flatMap be2).length=(i+1)*64:=by rw[flat_be2,List.length_take];omega
    generalize hB2:(Pr.take (i+1)).flatMap be2=B2 at *
    rcases i with _|i
    · have hQ1:=r_PutLong [] x.1 0 none (by decide)
      rw[List.nil_append] at hQ1
      have hQ2:=fun g c=>r_PutLong (be 32 x.1) x.2 c (some ⟨g,0,none⟩) (by rw[be_length];decide)
      rw[show be 32 x.1++be 32 x.2=B2 by rw[← hst];rfl] at hQ2
      try dsimp only[agV,zL,List.cons_append,List.nil_append]
      repeat (first|refine Ta ?_|(refine Tm ?_;intro _)|refine Tc ?_|exact Tz)
      refine WC.dT rfl (by omega) ?_
      repeat (first|refine Ta ?_|(refine Tm ?_;intro _)|refine Tc ?_|exact Tz)
      refine WC.adraw 15 (k:=?_)
      iterate 4 (refine DQ.auto (k:=?_))
      refine DQ.does (fun s _=>does_indexSlice (o':=o+0*8) rfl rfl hlt rfl) Dp.const ?_
      refine DQ.auto (k:=?_)
      refine DQ.does (fun s _=>a_loadF (vs:=numC x.1) (hs:=hs) (hle:=Nat.le_add_right _ _) (hc:=hc1)) Dp.const ?_
      refine DQ.acallZ (hc:=hQ1) (hR:=fun _=>Rd.nil) (hX:=by rw[be_length];decide) (k:=?_)
      iterate 3 (refine DQ.auto (k:=?_))
      refine DQ.does (fun s _=>does_indexSlice (o':=o+0*8) rfl rfl hlt rfl) Dp.const ?_
      refine DQ.auto (k:=?_)
      refine DQ.does (fun s _=>a_loadF (vs:=numC x.2) (hs:=hs) (hle:=Nat.le_trans (Nat.le_add_right _ _) (Nat.le_add_right _ _)) (hc:=hc2)) Dp.const ?_
      refine DQ.acallZE (fun s=>[⟨s 7 0,5,byC (be 32 x.1++rz (s 7))⟩]) (fun s=>.cons 7 (by repeat (first|exact .head _|apply List.Mem.tail)) (by decide +kernel) .nil) (fun s _=>hQ2 (s 7 0) (s 7 1)) (fun s hC w hm=>rd_ownZ hm Hs.here hC.2.1 hC.2.2) (by rw[hBl2];decide) (fun s=>rfl) ?_
      refine DQ.anil (k:=?_)
      intro sx hC
      obtain⟨_,h1,h2⟩:=hC
      rw[hBl2]
      generalize rz (sx 14)=r1 at *
      generalize sx 14 0=g1 at *
      generalize sx 14 1=c1 at *
      repeat (first|refine Ta ?_|(refine Tm ?_;intro _)|refine WO.does (does_add rfl rfl hadd2) ?_|refine Tc ?_|exact Tz)
      subst hB2
      exact WX.metI (1,g1,c1,r1) (hs:=⟨⟨by show 0+1≤Pr.length;omega,fun _=>⟨h1,h2⟩⟩,by show Pr.length - (0+1)<Pr.length - 0;omega⟩)
    · obtain⟨u1,u2⟩:=hr (by omega)
      have hQ1:=r_PutLong ((Pr.take (i+1)).flatMap be2) x.1 pc (some ⟨gP,0,none⟩) (by omega)
      have hQ2:=fun g c=>r_PutLong ((Pr.take (i+1)).flatMap be2++be 32 x.1) x.2 c (some ⟨g,0,none⟩) (by rw[List.length_append,be_length];omega)
      rw[List.append_assoc,hst] at hQ2
      generalize (Pr.take (i+1)).flatMap be2=B1 at *
      rw[hBl] at hQ1
      try dsimp only[agV,zL,List.cons_append,List.nil_append]
      repeat (first|refine Ta ?_|(refine Tm ?_;intro _)|refine Tc ?_|exact Tz)
      refine WC.dT rfl (by omega) ?_
      repeat (first|refine Ta ?_|(refine Tm ?_;intro _)|refine Tc ?_|exact Tz)
      refine WC.adraw 15 (k:=?_)
      iterate 4 (refine DQ.auto (k:=?_))
      refine DQ.does (fun s _=>does_indexSlice (o':=o+(i+1)*8) rfl rfl hlt rfl) Dp.const ?_
      refine DQ.auto (k:=?_)
      refine DQ.does (fun s _=>a_loadF (vs:=numC x.1) (hs:=hs) (hle:=Nat.le_add_right _ _) (hc:=hc1)) Dp.const ?_
      refine DQ.acallZE (fun _=>[]) (fun _=>.nil) (fun s _=>hQ1) (fun s hC w hm=>by have:=rd_ownZ hm (by repeat (first|exact Hs.here|apply Hs.there)) u1 u2;rw[hBl] at this;exact this) (by rw[List.length_append,hBl,be_length];omega) (fun s=>rfl) ?_
      iterate 3 (refine DQ.auto (k:=?_))
      refine DQ.does (fun s _=>does_indexSlice (o':=o+(i+1)*8) rfl rfl hlt rfl) Dp.const ?_
      refine DQ.auto (k:=?_)
      refine DQ.does (fun s _=>a_loadF (vs:=numC x.2) (hs:=hs) (hle:=Nat.le_trans (Nat.le_add_right _ _) (Nat.le_add_right _ _)) (hc:=hc2)) Dp.const ?_
      refine DQ.acallZE (fun s=>[⟨s 7 0,5,byC (B1++be 32 x.1++rz (s 7))⟩]) (fun s=>.cons 7 (by repeat (first|exact .head _|apply List.Mem.tail)) (by decide +kernel) .nil) (fun s _=>hQ2 (s 7 0) (s 7 1)) (fun s hC w hm=>rd_ownZ hm Hs.here hC.2.1 hC.2.2) (by omega) (fun s=>rfl) ?_
      refine DQ.anil (k:=?_)
      intro sx hC
      obtain⟨_,h1,h2⟩:=hC
      rw[hBl2]
      generalize rz (sx 14)=r1 at *
      generalize sx 14 0=g1 at *
      generalize sx 14 1=c1 at *
      repeat (first|refine Ta ?_|(refine Tm ?_;intro _)|refine WO.does (does_add rfl rfl hadd2) ?_|refine Tc ?_|exact Tz)
      subst hB2
      exact WX.metI (i+1+1,g1,c1,r1) (hs:=⟨⟨by show i+1+1≤Pr.length;omega,fun _=>⟨h1,h2⟩⟩,by show Pr.length - (i+1+1)<Pr.length - (i+1);omega⟩)
  have hi2:i=Pr.length:=by omega
  subst hi2
  clear hlt hi
  obtain⟨p1,p2⟩:=hr hPp
  rw[List.take_length] at *
  rw[agV_pos hPp,zL_pos hPp]
  have hPB:(Pr.flatMap be2).length=Pr.length*64:=flat_be2 _
  generalize Pr.flatMap be2=PB at *
  try dsimp only[List.cons_append,List.nil_append]
  repeat (first|refine Ta ?_|(refine Tm ?_;intro _)|refine Tc ?_|exact Tz)
  refine WC.dF rfl (by omega) ?_
  repeat (first|refine Ta ?_|(refine Tm ?_;intro _)|refine Tc ?_|exact Tz)
  refine WC.adraw 12 (k:=?_)
  iterate 2 (refine DQ.auto (k:=?_))
  refine DQ.acallZ (hc:=hP0) (hR:=fun _=>Rd.nil) (hX:=by rw[h8];decide) (k:=?_)
  iterate 2 (refine DQ.auto (k:=?_))
  refine DQ.does (fun s _=>does_conv rfl hcd) Dp.const ?_
  refine DQ.acallZE (fun s=>[⟨s 2 0,5,byC (be 8 ep++rz (s 2))⟩]) (fun s=>.cons 2 (by repeat (first|exact .head _|apply List.Mem.tail)) (by decide +kernel) .nil) (fun s _=>hP1 (s 2 0) (s 2 1)) (fun s hC w hm=>rd_ownZ hm Hs.here hC.2.1 hC.2.2) (by rw[h9];decide) (fun s=>rfl) ?_
  rw[h9]
  iterate 3 (refine DQ.auto (k:=?_))
  refine DQ.makes (vf:=fun _ g=>.slice (some ⟨g,0,none⟩) 4 4) (t:=84) (cs:=fun s=>[.slice (some ⟨s 6 0,0,none⟩) 9 (s 6 1),.slice (some ⟨gV,0,none⟩) (V.length*32) vc,.slice (some ⟨gY,0,none⟩) (Y.length*32) yc,.slice (some ⟨gP,0,none⟩) (Pr.length*64) pc]) (fun s _=>makes_build rfl (by decide) rfl) Dp.const (by intro s s' h;dsimp only;rw[h]<;>decide +kernel) ?_
  refine DQ.callE (v:=fun _=>.agg (byC H).toArray) (fun s=>[⟨s 10 0,84,[.slice (some ⟨s 6 0,0,none⟩) 9 (s 6 1),.slice (some ⟨gV,0,none⟩) (V.length*32) vc,.slice (some ⟨gY,0,none⟩) (Y.length*32) yc,.slice (some ⟨gP,0,none⟩) (Pr.length*64) pc]⟩,⟨s 6 0,5,byC (be 8 ep++be 1 d++rz (s 6))⟩])
    (fun s=>.cons 10 (.head _) (by decide +kernel) (.cons 6 (by repeat (first|exact .head _|apply List.Mem.tail)) (by decide +kernel) .nil)) (fun s _=>hO (s 6 0) (s 6 1) gV vc gY yc gP pc (s 10 0)) (fun s=>rfl)
    (fun s hC w hm=>⟨Hs.seg Hs.here hm,Parts.cons (rdp_ownZ hm (Hs.there Hs.here) hC.2.1 hC.2.2 h9) (Parts.cons (rdp_ownZ hm (by repeat (first|exact Hs.here|apply Hs.there)) v1 v2 hVB) (Parts.cons (rdp_ownZ hm (by repeat (first|exact Hs.here|apply Hs.there)) y1 y2 hYB) (Parts.cons (rdp_ownZ hm (by repeat (first|exact Hs.here|apply Hs.there)) p1 p2 hPB) Parts.nil)))⟩) Dp.const ?_
  refine DQ.anil (k:=?_)
  intro sx _
  refine WO.stores (a_store (vs:=byC H) (cs':=byC H) (hl:=hHlen) (h1:=byC_one _) (hc:=over_all (by rw[hHlen];rfl)) (hle:=by rw[hHlen];rfl)) ?_
  repeat (first|refine Ta ?_|(refine Tm ?_;intro _)|refine Tc ?_|exact Tz)
  exact WX.aret1 (hr:=a_rvc (vs:=byC H) (hc:=cut_all hHlen) (hl:=hHlen)) (hp:=rfl)
end Sx
end Go.Proofs.YtmhligfnchegdaaGreatDoor
namespace Go.Proofs.YtmhligfnchegdaaGreatDoor
open Go Go.RowKit Go.BigFrame
namespace Sx
attribute [local irreducible] wd DQ DQS WO WC WX
theorem RdF.rdK {v:Value} {N:List (Nat × Nat)} {w:World} (h:RdF keyC v N w):RdK v N w:=h
abbrev dealE:Value:=.tuple #[dlV 0 0 (.slice none 0 0) (.slice none 0 0) (.slice none 0 0) 0 0,.int .i64 1]
section
variable (p q g h:Nat) (f sec:Int) (pt:Option Addr) (c:Nat) (N:List (Nat × Nat)) (ep d x:Nat) (pz:Option Addr) (cz:Nat) (l:List Nat)
set_option maxHeartbeats 4000000 in
theorem c_DealN (hp:p<B256) (hq:q<B256) (hg:g<B256) (hh:h<B256) (hN:NumsOk N) (hNl:N.length≤100) (hl:∀ a∈l,a<B256) (hn:l.length≤100)
    (hf1 : -9223372036854775808≤f) (hf2:f≤9223372036854775807) (hs1 : -9223372036854775808≤sec) (hs2:sec≤9223372036854775807) (hd:d<256) (hx:x<B256)
    (hA:dealB p q g h f sec N d l x=false) :
    Fn Tryz.prog 7 [stV p q g h f sec (.slice pt N.length c),.int .u64 (ep:Int),.int .u8 (d:Int),.slice pz l.length cz,numV x] (fun w=>RdF keyC (.slice pt N.length c) N w∧RdF numC (.slice pz l.length cz) l w) (Is dealE):=by
  have hS:=c_Setting p q g h f sec pt c N hp hq hg hh hN (by omega) hf1 hf2 hs1 hs2
  have hNd:=c_node p q g h f sec pt c N d hd (by omega)
  unfold dealB at hA
  cases e1:setB p q g h f sec N with
  | false =>
    rw[e1] at hS
    clear hA hNd hN hNl hf1 hf2 hs1 hs2 hn hx hp hq hg hh
    refine Fn.enter Tryz.func7 rfl rfl rfl ?_
    intro w hw
    obtain⟨hwK,hwY⟩:=hw
    repeat (first|refine Ta ?_|(refine Tm ?_;intro _)|refine Tc ?_|exact Tz)
    refine WC.adraw 28 (k:=?_)
    iterate 28 (first|refine Da ?_|refine DQ.acallR (hc:=hS) (hR:=fun w hm=>(hwK.mod hm.mod).rdK) (k:=?_)|refine Dc ?_)
    refine DQ.anil (k:=?_)
    intro sx _
    repeat (first|refine Ta ?_|(refine Tm ?_;intro _)|refine Tc ?_|exact Tz)
    done
  | true =>
  rw[e1] at hS hA
  have hsp:=setB_spec e1
  cases e2:nodeB d N with
  | false =>
    rw[e2] at hNd
    clear hA hN hNl hf1 hf2 hs1 hs2 hn hx hp hq hg hh hsp
    refine Fn.enter Tryz.func7 rfl rfl rfl ?_
    intro w hw
    obtain⟨hwK,hwY⟩:=hw
    repeat (first|refine Ta ?_|(refine Tm ?_;intro _)|refine Tc ?_|exact Tz)
    refine WC.adraw 28 (k:=?_)
    iterate 28 (first|refine Da ?_|refine DQ.acallR (hc:=hS) (hR:=fun w hm=>(hwK.mod hm.mod).rdK) (k:=?_)|refine DQ.acall (hc:=hNd) (k:=?_)|refine Dc ?_)
    refine DQ.anil (k:=?_)
    intro sx _
    repeat (first|refine Ta ?_|(refine Tm ?_;intro _)|refine Tc ?_|exact Tz)
    done
  | true =>
  rw[e2] at hNd hA
  have hP:=c_poly p q g h f sec (.slice pt N.length c) l pz cz hl (by omega) hq ⟨hsp.2.2.2.1,by omega,hsp.2.2.2.2.2.1⟩
  cases e3:(decide ((l.length:Int)=f+sec) && allN q l) with
  | false =>
    rw[e3] at hP
    clear hA hN hNl hf1 hf2 hs1 hs2 hn hx hp hq hg hh hsp
    refine Fn.enter Tryz.func7 rfl rfl rfl ?_
    intro w hw
    obtain⟨hwK,hwY⟩:=hw
    repeat (first|refine Ta ?_|(refine Tm ?_;intro _)|refine Tc ?_|exact Tz)
    refine WC.adraw 28 (k:=?_)
    iterate 28 (first|refine Da ?_|refine DQ.acallR (hc:=hS) (hR:=fun w hm=>(hwK.mod hm.mod).rdK) (k:=?_)|refine DQ.acall (hc:=hNd) (k:=?_)|refine DQ.acallR (hc:=hP) (hR:=fun w hm=>hwY.mod hm.mod) (k:=?_)|refine Dc ?_)
    refine DQ.anil (k:=?_)
    intro sx _
    repeat (first|refine Ta ?_|(refine Tm ?_;intro _)|refine Tc ?_|exact Tz)
    done
  | true =>
  rw[e3] at hP hA
  obtain⟨n1,n2⟩:=nodeB_spec e2
  have hlt:d - 1<N.length:=by omega
  obtain⟨k,hk⟩ : ∃ k,N[d - 1]?=some k:=⟨_,List.getElem?_eq_getElem hlt⟩
  have hkb:=hN k (List.mem_of_getElem? hk)
  have hSec:=c_secret p q g h f sec (.slice pt N.length c) x k.1 hx hkb.1 hp hq hg
  rw[sgK_get hk] at hA
  rw[show secB p q g x k.1=false by simpa using hA] at hSec
  have hsub:IntKind.u8.wrap ((d:Int) - 1)=((d - 1:Nat):Int):=by
    have:(d:Int) - 1=((d - 1:Nat):Int):=by omega
    rw[this]
    exact u8_in (by omega) (by omega)
  clear hA hN hNl hf1 hf2 hs1 hs2 hn hx hp hq hg hh hsp hkb
  refine Fn.enter Tryz.func7 rfl rfl rfl ?_
  intro w hw
  obtain⟨hwK,hwY⟩:=hw
  obtain⟨b,o,rfl,_,hs⟩:=hwK.get hk
  repeat (first|refine Ta ?_|(refine Tm ?_;intro _)|refine Tc ?_|exact Tz)
  refine WC.adraw 28 (k:=?_)
  iterate 28 (first|refine Da ?_|refine DQ.acallR (hc:=hS) (hR:=fun w hm=>(hwK.mod hm.mod).rdK) (k:=?_)|refine DQ.acall (hc:=hNd) (k:=?_)|refine DQ.acallR (hc:=hP) (hR:=fun w hm=>hwY.mod hm.mod) (k:=?_)|refine DQ.acall (hc:=hSec) (k:=?_)|refine DQ.does (fun s _=>does_sub rfl rfl hsub) Dp.const ?_|refine DQ.does (fun s _=>does_indexSlice (i:=d - 1) (o':=o+(d - 1)*8) rfl rfl hlt rfl) Dp.const ?_|refine DQ.does (fun s _=>a_loadF (vs:=numC k.1) (hs:=hs) (hle:=by omega) (hc:=cut_key1 hk)) Dp.const ?_|refine Dc ?_)
  refine DQ.anil (k:=?_)
  intro sx _
  repeat (first|refine Ta ?_|(refine Tm ?_;intro _)|refine Tc ?_|exact Tz)
  done
end
end Sx
end Go.Proofs.YtmhligfnchegdaaGreatDoor
namespace Go.Proofs.YtmhligfnchegdaaGreatDoor
open Go Go.RowKit Go.BigFrame
namespace Sx
attribute [local irreducible] wd DQ DQS WO WC WX
section
variable {w0:World} {gs:List Nat} {K:List (Nat × Value)} {L:List Ent}
theorem a_neqNumV {x y:Operand} {yt ty:TypeId} {a b:Nat} {r:Bool} (hx:ev K x=some (numV a)) (hy:ev K y=some (numV b)) (ha:a<B256) (hb:b<B256) (hr:decide (a≠b)=r) :
    Does Tryz.prog w0 gs K L (.binOp .neq 24 x y yt) ty (.bool r):=by
  subst hr
  exact a_neqNum (hx:=hx) (hy:=hy) (ha:=ha) (hb:=hb)
end
section
variable (p q g h:Nat) (f sec:Int) (pt:Option Addr) (c:Nat) (N:List (Nat × Nat)) (ep d x:Nat) (pz:Option Addr) (cz:Nat) (l:List Nat)
set_option maxHeartbeats 4000000 in
theorem r15_DealN (hp:p<B256) (hq:q<B256) (hg:g<B256) (hh:h<B256) (hN:NumsOk N) (hNl:N.length≤100) (hl:∀ a∈l,a<B256) (hn:l.length≤100)
    (hf1 : -9223372036854775808≤f) (hf2:f≤9223372036854775807) (hs1 : -9223372036854775808≤sec) (hs2:sec≤9223372036854775807) (hd:d<256) (hx:x<B256)
    (hA:dealB p q g h f sec N d l x=false) :
    Fn Tryz.prog 8 [stV p q g h f sec (.slice pt N.length c),.int .u64 (ep:Int),.int .u8 (d:Int),.slice pz l.length cz,numV x] (fun w=>RdF keyC (.slice pt N.length c) N w∧RdF numC (.slice pz l.length cz) l w) (Is dealE):=by
  have hS:=r15_Setting p q g h f sec pt c N hp hq hg hh hN (by omega) hf1 hf2 hs1 hs2
  have hNd:=r15_Node p q g h f sec pt c N d hd (by omega)
  unfold dealB at hA
  cases e1:setB p q g h f sec N with
  | false =>
    rw[e1] at hS
    clear hA hNd hN hNl hf1 hf2 hs1 hs2 hn hx hp hq hg hh
    refine Fn.enter Tryz.func8 rfl rfl rfl ?_
    intro w hw
    obtain⟨hwK,hwY⟩:=hw
    repeat (first|refine Ta ?_|(refine Tm ?_;intro _)|refine WO.acallR (hc:=hS) (hR:=fun w hm=>(hwK.mod hm.mod).rdK) (k:=?_)|refine Tc ?_|exact Tz)
    done
  | true =>
  rw[e1] at hS hA
  have hsp:=setB_spec e1
  cases e2:nodeB d N with
  | false =>
    rw[e2] at hNd
    clear hA hN hNl hf1 hf2 hs1 hs2 hn hx hp hq hg hh hsp
    refine Fn.enter Tryz.func8 rfl rfl rfl ?_
    intro w hw
    obtain⟨hwK,hwY⟩:=hw
    repeat (first|refine Ta ?_|(refine Tm ?_;intro _)|refine WO.acallR (hc:=hS) (hR:=fun w hm=>(hwK.mod hm.mod).rdK) (k:=?_)|refine WO.acall (hc:=hNd) (k:=?_)|refine Tc ?_|exact Tz)
    done
  | true =>
  rw[e2] at hNd hA
  have hP:=r15_Poly p q g h f sec (.slice pt N.length c) l pz cz hl (by omega) hq ⟨hsp.2.2.2.1,by omega,hsp.2.2.2.2.2.1⟩
  cases e3:(decide ((l.length:Int)=f+sec) && allN q l) with
  | false =>
    rw[e3] at hP
    clear hA hN hNl hf1 hf2 hs1 hs2 hn hx hp hq hg hh hsp
    refine Fn.enter Tryz.func8 rfl rfl rfl ?_
    intro w hw
    obtain⟨hwK,hwY⟩:=hw
    repeat (first|refine Ta ?_|(refine Tm ?_;intro _)|refine WO.acallR (hc:=hS) (hR:=fun w hm=>(hwK.mod hm.mod).rdK) (k:=?_)|refine WO.acall (hc:=hNd) (k:=?_)|refine WO.acallR (hc:=hP) (hR:=fun w hm=>hwY.mod hm.mod) (k:=?_)|refine Tc ?_|exact Tz)
    done
  | true =>
  rw[e3] at hP hA
  have hEx:=r13_Exponent p q g h x hx hq
  cases e4:mayN x x q with
  | false =>
    rw[e4] at hEx
    clear hA hN hNl hf1 hf2 hs1 hs2 hn hx hp hq hg hh hsp
    refine Fn.enter Tryz.func8 rfl rfl rfl ?_
    intro w hw
    obtain⟨hwK,hwY⟩:=hw
    repeat (first|refine Ta ?_|(refine Tm ?_;intro _)|refine WO.acallR (hc:=hS) (hR:=fun w hm=>(hwK.mod hm.mod).rdK) (k:=?_)|refine WO.acall (hc:=hNd) (k:=?_)|refine WO.acallR (hc:=hP) (hR:=fun w hm=>hwY.mod hm.mod) (k:=?_)|refine Tc ?_|exact Tz)
    refine WC.adraw 19 (k:=?_)
    iterate 19 (first|refine Da ?_|refine DQ.acall (hc:=hEx) (k:=?_)|refine Dc ?_)
    refine DQ.anil (k:=?_)
    intro sx _
    repeat (first|refine Ta ?_|(refine Tm ?_;intro _)|refine Tc ?_|exact Tz)
    done
  | true =>
  rw[e4] at hEx
  obtain⟨n1,n2⟩:=nodeB_spec e2
  have hlt:d - 1<N.length:=by omega
  obtain⟨k,hk⟩ : ∃ k,N[d - 1]?=some k:=⟨_,List.getElem?_eq_getElem hlt⟩
  have hkb:=hN k (List.mem_of_getElem? hk)
  have hPw:=r15_power p q g h g x hg hx hp
  have hyl:exN p g x<B256:=exN_lt hp
  have hne:decide (exN p g x≠k.1)=true:=by
    rw[sgK_get hk,secB_ex,e4,hsp.2.2.2.2.2.2.1] at hA
    simpa using hA
  generalize exN p g x=y at *
  have hsub:IntKind.u8.wrap ((d:Int) - 1)=((d - 1:Nat):Int):=by
    have:(d:Int) - 1=((d - 1:Nat):Int):=by omega
    rw[this]
    exact u8_in (by omega) (by omega)
  clear hA hN hNl hf1 hf2 hs1 hs2 hn hx hp hq hg hh hsp
  refine Fn.enter Tryz.func8 rfl rfl rfl ?_
  intro w hw
  obtain⟨hwK,hwY⟩:=hw
  obtain⟨b,o,rfl,_,hs⟩:=id hwK |>.get hk
  repeat (first|refine Ta ?_|(refine Tm ?_;intro _)|refine WO.acallR (hc:=hS) (hR:=fun w hm=>(hwK.mod hm.mod).rdK) (k:=?_)|refine WO.acall (hc:=hNd) (k:=?_)|refine WO.acallR (hc:=hP) (hR:=fun w hm=>hwY.mod hm.mod) (k:=?_)|refine Tc ?_|exact Tz)
  refine WC.adraw 19 (k:=?_)
  iterate 19 (first|refine Da ?_|refine DQ.acall (hc:=hEx) (k:=?_)|refine DQ.acall (hc:=hPw) (k:=?_)|refine DQ.does (fun s _=>does_sub rfl rfl hsub) Dp.const ?_|refine DQ.does (fun s _=>does_indexSlice (i:=d - 1) (o':=o+(d - 1)*8) rfl rfl hlt rfl) Dp.const ?_|refine DQ.does (fun s _=>a_loadF (vs:=numC k.1) (hs:=hs) (hle:=by omega) (hc:=cut_key1 hk)) Dp.const ?_|refine DQ.does (fun s _=>a_neqNumV rfl rfl hyl hkb.1 hne) Dp.const ?_|refine Dc ?_)
  refine DQ.anil (k:=?_)
  intro sx _
  repeat (first|refine Ta ?_|(refine Tm ?_;intro _)|refine Tc ?_|exact Tz)
  done
end
end Sx
end Go.Proofs.YtmhligfnchegdaaGreatDoor
