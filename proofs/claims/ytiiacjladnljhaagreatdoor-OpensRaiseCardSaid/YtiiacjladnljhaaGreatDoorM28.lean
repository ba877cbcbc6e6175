/- Part 28 of the proof: PoN, DsA, PlA, SyE, PlB -/
import Derived.Test.YtiiacjladnljhaaGreatDoorM07
import Derived.Test.YtiiacjladnljhaaGreatDoorM27
import Derived.Test.YtiiacjladnljhaaGreatDoorM19
import Derived.Test.YtiiacjladnljhaaGreatDoorM18
import Derived.Test.YtiiacjladnljhaaGreatDoorM20
set_option linter.unusedSimpArgs false
set_option linter.unusedVariables false
namespace Go.Proofs.YtiiacjladnljhaaGreatDoor
namespace Sx
def allN (q:Nat) (l:List Nat):Bool:=decide (1<q) && l.all (fun x=>decide (x<q))
theorem allN_spec {q:Nat} {l:List Nat} (h:allN q l=true):1<q∧∀ x∈l,x<q:=by
  unfold allN at h
  simpa using h
theorem allN_no {q i x:Nat} {l:List Nat} (hx:l[i]?=some x) (h:decide (x<q)=false):allN q l=false:=by
  unfold allN
  have:l.all (fun x=>decide (x<q))=false:=by
    rw[List.all_eq_false]
    exact⟨x,List.mem_of_getElem? hx,by simp at h ⊢;exact h⟩
  rw[this,Bool.and_false]
theorem allN_yes {q:Nat} {l:List Nat} (h1:1<q) (h:∀ j,j<l.length→∀ x,l[j]?=some x→decide (x<q)=true):allN q l=true:=by
  unfold allN
  rw[decide_eq_true h1,Bool.true_and,List.all_eq_true]
  intro x hx
  obtain⟨j,hj⟩:=List.mem_iff_getElem?.1 hx
  exact h j (by rcases Nat.lt_or_ge j l.length with h1|h1;exact h1;rw[List.getElem?_eq_none h1] at hj;cases hj) x hj
def polyN:List Nat→Nat→Nat
  | [],_=>0
  | c::r,x=>c+x*polyN r x
theorem polyN_snoc (p:List Nat) (c x:Nat):polyN (p++[c]) x=polyN p x+c*x ^ p.length:=by
  induction p with
  | nil=>simp[polyN]
  | cons a r ih =>
    simp only[List.cons_append,polyN,ih,List.length_cons,Nat.pow_succ,Nat.mul_add]
    rw[Nat.add_assoc,Nat.mul_left_comm x c,Nat.mul_comm x (x ^ r.length)]
def hornN (q x:Nat):List Nat→Nat
  | []=>0
  | c::r=>(hornN q x r*x%q+c)%q
theorem hornN_eq (q x:Nat) (p:List Nat):hornN q x p=polyN p x%q:=by
  induction p with
  | nil=>simp[hornN,polyN]
  | cons c r ih =>
    simp only[hornN,polyN,ih]
    rw[Nat.mod_mul_mod,Nat.mod_add_mod,Nat.add_comm,Nat.mul_comm]
theorem polyN_step (q x:Nat) (p:List Nat) (c:Nat):(polyN p x%q+c*(x ^ p.length%q)%q)%q=polyN (p++[c]) x%q:=by
  rw[polyN_snoc,Nat.mul_mod_mod,← Nat.add_mod]
theorem pow_step (q x k:Nat):x ^ k%q*x%q=x ^ (k+1)%q:=by
  rw[Nat.mod_mul_mod,Nat.pow_succ]
def ofZ (q:Nat) (n:Int):Nat:=if q<2 then 0 else (n%(q:Int)).toNat
theorem ofZ_nat (q m:Nat) (h:0<q):ofZ q (m:Int)=m%q:=by
  unfold ofZ
  split
  · have:q=1:=by omega
    subst this
    rw[Nat.mod_one]
  · rw[← Int.natCast_emod,Int.toNat_natCast]
theorem ofZ_zero (n:Int):ofZ 0 n=0:=rfl
end Sx
end Go.Proofs.YtiiacjladnljhaaGreatDoor
namespace Go.Proofs.YtiiacjladnljhaaGreatDoor
open Go Go.RowKit Go.BigFrame
namespace Sx
attribute [local irreducible] wd
def exN (p a n:Nat):Nat:=okV (gMay p a) (a ^ n%p)
def ky (N:List (Nat × Nat)) (i:Nat):Nat:=(N.getD i (0,0)).2
theorem range_take_succ {α:Type} (f:Nat→α) {i:Nat}:(List.range (i+1)).map f=(List.range i).map f++[f i]:=by
  rw[List.range_succ,List.map_append];rfl
theorem setB_spec {p q g h:Nat} {f sec:Int} {N:List (Nat × Nat)} (hs:setB p q g h f sec N=true):1≤N.length∧N.length≤7∧N.length<q∧0≤f∧1≤sec∧f+sec≤5∧gMay p g=true∧gMay p h=true:=by
  have hm:=setB_may hs
  unfold setB at hs
  simp only[Bool.and_eq_true,decide_eq_true_eq] at hs
  obtain⟨⟨⟨⟨⟨⟨⟨⟨⟨⟨h1,h2⟩,h3⟩,h4⟩,h5⟩,h6⟩,h7⟩,h8⟩,h9⟩,_⟩,_⟩:=hs
  unfold kB at h9
  rw[Bool.and_eq_true] at h9
  exact⟨by omega,by omega,by omega,h1,h3,by omega,gIn_may h9.1,hm⟩
end Sx
end Go.Proofs.YtiiacjladnljhaaGreatDoor
namespace Go.Proofs.YtiiacjladnljhaaGreatDoor
open Go Go.RowKit Go.BigFrame
namespace Sx
attribute [local irreducible] wd DQ DQS WO WC WX
theorem cut_flatP {α:Type} {f:α→List Value} {k:Nat} (hk:∀ x,(f x).length=k):∀ {xs:List α} {i:Nat} {x:α},xs[i]?=some x→cut (xs.flatMap f) (i*k) k=f x
  | [],i,x,h=>by simp at h
  | y::r,0,x,h=>by
    simp at h;subst h
    simp[cut,← hk y]
  | y::r,i+1,x,h=>by
    have:=cut_flatP hk (xs:=r) (i:=i) (x:=x) (by simpa using h)
    rw[← this]
    unfold cut
    rw[List.flatMap_cons,show (i+1)*k=(f y).length+i*k by rw[hk,Nat.succ_mul];omega,← List.drop_drop,List.drop_left]
abbrev fdC (p q g h:Nat) (e:Int):List Value:=[.int .u64 ((wd 0 p:Nat):Int),.int .u64 ((wd 1 p:Nat):Int),.int .u64 ((wd 2 p:Nat):Int),.int .u64 ((wd 3 p:Nat):Int),.int .u64 ((wd 0 q:Nat):Int),.int .u64 ((wd 1 q:Nat):Int),.int .u64 ((wd 2 q:Nat):Int),.int .u64 ((wd 3 q:Nat):Int),.int .u64 ((wd 0 g:Nat):Int),.int .u64 ((wd 1 g:Nat):Int),.int .u64 ((wd 2 g:Nat):Int),.int .u64 ((wd 3 g:Nat):Int),.int .u64 ((wd 0 h:Nat):Int),.int .u64 ((wd 1 h:Nat):Int),.int .u64 ((wd 2 h:Nat):Int),.int .u64 ((wd 3 h:Nat):Int),.int .i64 e]
def kE (e e' : Int):Int:=if e=0 then e' else e
section
variable (p q g h gF:Nat)
theorem c_keep (a:Nat) (e0 e:Int):FnM Tryz.prog 235 [pt gF,numV a,.int .i64 e] gF 253 (fdC p q g h e0) (fdC p q g h (kE e0 e)) Tr (numV a):=by
  refine FnM.enter Tryz.func235 rfl rfl rfl ?_
  intro w hw
  by_cases he:e0=0
  · rw[show kE e0 e=e from if_pos he]
    repeat (first|refine Ta ?_|(refine Tm ?_;intro _)|refine WO.does (does_eqlY rfl rfl he) ?_|refine Tc ?_|exact Tz)
    exact WX.retM_of (res1 rfl (by first|exact rv_tmp rfl|exact a_rvc)) (by repeat (first|exact Hs.here|apply Hs.there))
  · rw[show kE e0 e=e0 from if_neg he]
    repeat (first|refine Ta ?_|(refine Tm ?_;intro _)|refine WO.does (does_eqlN rfl rfl he) ?_|refine Tc ?_|exact Tz)
    exact WX.retM_of (res1 rfl (by first|exact rv_tmp rfl|exact a_rvc)) (by repeat (first|exact Hs.here|apply Hs.there))
theorem c_fplus (a b:Nat) (e0:Int) (ha:a<B256) (hb:b<B256) (hq:q<B256):FnM Tryz.prog 232 [pt gF,numV a,numV b] gF 253 (fdC p q g h e0) (fdC p q g h (kE e0 (okE (mayN a b q)))) Tr (numV (okV (mayN a b q) ((a+b)%q))):=by
  have hO:=c_SAdd p q g h a b ha hb hq
  have hK:=c_keep p q g h gF (okV (mayN a b q) ((a+b)%q)) e0 (okE (mayN a b q))
  simp only[rE] at hO
  generalize okV (mayN a b q) ((a+b)%q)=R at *
  generalize okE (mayN a b q)=E at *
  refine FnM.enter Tryz.func232 rfl rfl rfl ?_
  intro w hw
  repeat (first|refine Ta ?_|(refine Tm ?_;intro _)|refine Tc ?_|exact Tz)
  refine WC.adraw 10 (k:=?_)
  repeat (first|refine Da ?_|refine DQ.acall (hc:=hO) (k:=?_)|refine Dc ?_)
  refine DQ.anil (k:=?_)
  intro sx _
  repeat (first|refine Ta ?_|(refine Tm ?_;intro _)|refine WO.callM rfl hK (by repeat (first|exact Rp.here|apply Rp.there)) (fun _ _=>trivial) (by decide) ?_ rfl rfl|refine Tc ?_|exact Tz)
  exact WX.retM_of (res1 rfl (by first|exact rv_tmp rfl|exact a_rvc)) (by repeat (first|exact Hs.here|apply Hs.there))
theorem c_ftimes (a b:Nat) (e0:Int) (ha:a<B256) (hb:b<B256) (hq:q<B256):FnM Tryz.prog 191 [pt gF,numV a,numV b] gF 253 (fdC p q g h e0) (fdC p q g h (kE e0 (okE (mayN a b q)))) Tr (numV (okV (mayN a b q) (a*b%q))):=by
  have hO:=c_SMul p q g h a b ha hb hq
  have hK:=c_keep p q g h gF (okV (mayN a b q) (a*b%q)) e0 (okE (mayN a b q))
  simp only[rE] at hO
  generalize okV (mayN a b q) (a*b%q)=R at *
  generalize okE (mayN a b q)=E at *
  refine FnM.enter Tryz.func191 rfl rfl rfl ?_
  intro w hw
  repeat (first|refine Ta ?_|(refine Tm ?_;intro _)|refine Tc ?_|exact Tz)
  refine WC.adraw 10 (k:=?_)
  repeat (first|refine Da ?_|refine DQ.acall (hc:=hO) (k:=?_)|refine Dc ?_)
  refine DQ.anil (k:=?_)
  intro sx _
  repeat (first|refine Ta ?_|(refine Tm ?_;intro _)|refine WO.callM rfl hK (by repeat (first|exact Rp.here|apply Rp.there)) (fun _ _=>trivial) (by decide) ?_ rfl rfl|refine Tc ?_|exact Tz)
  exact WX.retM_of (res1 rfl (by first|exact rv_tmp rfl|exact a_rvc)) (by repeat (first|exact Hs.here|apply Hs.there))
def gaS (q:Nat) (l:List Nat) (a:Nat) (e:Int):Nat × Int:=l.foldl (fun s x=>(okV (mayN s.1 x q) ((s.1+x)%q),kE s.2 (okE (mayN s.1 x q)))) (a,e)
theorem gaS_snoc (q:Nat) (l:List Nat) (x a:Nat) (e:Int):gaS q (l++[x]) a e=(okV (mayN (gaS q l a e).1 x q) (((gaS q l a e).1+x)%q),kE (gaS q l a e).2 (okE (mayN (gaS q l a e).1 x q))):=by
  unfold gaS
  rw[List.foldl_append];rfl
theorem gaS_lt {q:Nat} {l:List Nat} {a:Nat} {e:Int} (hq:q<B256) (ha:a<B256):(gaS q l a e).1<B256:=by
  rcases List.eq_nil_or_concat l with rfl|⟨l,x,rfl⟩
  · exact ha
  · rw[List.concat_eq_append,gaS_snoc]
    cases h:mayN (gaS q l a e).1 x q with
    | false=>exact B256_zero
    | true=>exact Nat.lt_trans (Nat.mod_lt _ (by have:=(mayN_spec h).1;omega)) hq
set_option maxHeartbeats 1000000 in
theorem c_gather (l:List Nat) (pt:Option Addr) (c a:Nat) (e0:Int) (ha:a<B256) (hl:∀ x∈l,x<B256) (hn:l.length≤1099511627776) (hq:q<B256) :
    FnM Tryz.prog 188 [numV a,.slice pt l.length c,.func (.func 232) #[Sx.pt gF] #[]] gF 253 (fdC p q g h e0) (fdC p q g h (gaS q l a e0).2) (fun w=>RdF numC (.slice pt l.length c) l w∧∀ b o,pt=some ⟨b,o,none⟩→l≠[]→b ∉ [gF]) (numV (gaS q l a e0).1):=by
  have hP:=fun u x e (hu:u<B256) (hx:x<B256)=>(c_fplus p q g h gF u x e hu hx hq).toL
  refine FnM.enter Tryz.func188 rfl rfl rfl ?_
  intro w hw
  obtain⟨⟨pt',c',e,hpc⟩,hout⟩:=hw
  cases e
  repeat (first|refine Ta ?_|(refine Tm ?_;intro _)|refine Tc ?_|exact Tz)
  rename_i g3 g6
  refine WC.loopI (σ:=Nat) (fun i=>i≤l.length) (fun i=>[(2,.func (.func 232) #[Sx.pt gF] #[]),(3,Sx.pt g3),(6,Sx.pt g6),(9,.slice pt l.length c),(10,.int .i64 (l.length:Int)),(11,.int .i64 (i:Int))])
    (fun i=>[⟨g6,24,numC 0⟩,⟨g3,24,numC (gaS q (l.take i) a e0).1⟩,⟨gF,253,fdC p q g h (gaS q (l.take i) a e0).2⟩]) (fun i=>l.length - i) 0 (fun i hi=>?_) (Nat.zero_le _)
  try dsimp only at hi ⊢
  by_cases hlt:i<l.length
  · obtain⟨x,hx⟩ : ∃ x,l[i]?=some x:=⟨_,List.getElem?_eq_getElem hlt⟩
    rcases hpc with ⟨_,h0⟩|⟨b,o,rfl,hs⟩
    · rw[h0] at hlt;simp at hlt
    have hb:b ∉ [gF]:=hout b o rfl (by rintro rfl;simp at hlt)
    have hadd2:IntKind.i64.wrap ((i:Int)+1)=((i+1:Nat):Int):=i64_in' (by omega) (by omega) (by omega)
    have hcx:cut (l.flatMap numC) (o+i*4 - o) 4=numC x:=by rw[Nat.add_sub_cancel_left];exact cut_flatP (f:=numC) (k:=4) (fun _=>rfl) hx
    have hPx:=hP (gaS q (l.take i) a e0).1 x (gaS q (l.take i) a e0).2 (gaS_lt hq ha) (hl x (List.mem_of_getElem? hx))
    have hst:=gaS_snoc q (l.take i) x a e0
    rw[show l.take i++[x]=l.take (i+1) by rw[List.take_add_one,hx];rfl] at hst
    rw[show okV (mayN (gaS q (l.take i) a e0).1 x q) (((gaS q (l.take i) a e0).1+x)%q)=(gaS q (l.take (i+1)) a e0).1 by rw[hst],show kE (gaS q (l.take i) a e0).2 (okE (mayN (gaS q (l.take i) a e0).1 x q))=(gaS q (l.take (i+1)) a e0).2 by rw[hst]] at hPx
    clear hst hP hl
    repeat (first|refine Ta ?_|(refine Tm ?_;intro _)|refine Tc ?_|exact Tz)
    refine WC.dT rfl (by omega) ?_
    repeat (first|refine Ta ?_|(refine Tm ?_;intro _)|refine WO.does (does_indexSlice (o':=o+i*4) rfl rfl hlt rfl) ?_|refine WO.does (a_loadF (vs:=numC x) (hs:=hs) (hle:=Nat.le_add_right _ _) (hb:=hb) (hc:=hcx)) ?_|refine Tc ?_|exact Tz)
    refine WO.callsLV hPx rfl rfl rfl (Pks.cons (Pk.there (Pk.there (Pk.there Pk.here))) Pks.nil) (fun _ _=>trivial) (fun v N hv=>?_)
    obtain⟨rfl,rfl⟩:=hv
    simp only[List.cons_append,List.nil_append]
    repeat (first|refine Ta ?_|(refine Tm ?_;intro _)|refine WO.does (does_add rfl rfl hadd2) ?_|refine Tc ?_|exact Tz)
    exact WX.metI (i+1) (hs:=⟨by show i+1≤l.length;omega,by show l.length - (i+1)<l.length - i;omega⟩)
  · have hi2:i=l.length:=by omega
    subst hi2
    rw[List.take_length]
    repeat (first|refine Ta ?_|(refine Tm ?_;intro _)|refine Tc ?_|exact Tz)
    refine WC.dF rfl (by omega) ?_
    repeat (first|refine Ta ?_|(refine Tm ?_;intro _)|refine Tc ?_|exact Tz)
    exact WX.retM_of (res1 rfl (by first|exact rv_tmp rfl|exact a_rvc)) (by repeat (first|exact Hs.here|apply Hs.there))
end
theorem gaS_one (q:Nat):∀ (l:List Nat) (a:Nat),(gaS q l a 1).2=1
  | [],_=>rfl
  | x::l,a=>by
    show (gaS q l _ (kE 1 _)).2=1
    rw[show kE 1 (okE (mayN a x q))=1 from rfl]
    exact gaS_one q l _
theorem gaS_ok {q:Nat} (h1:1<q):∀ (l:List Nat) (a:Nat),a<q→(gaS q l a 0).2=if l.all (fun x=>decide (x<q))=true then 0 else 1
  | [],_,_=>rfl
  | x::l,a,ha=>by
    show (gaS q l (okV (mayN a x q) ((a+x)%q)) (kE 0 (okE (mayN a x q)))).2=_
    rw[show kE 0 (okE (mayN a x q))=okE (mayN a x q) from rfl]
    by_cases hx:x<q
    · rw[show mayN a x q=true by simp[mayN,h1,ha,hx]]
      show (gaS q l ((a+x)%q) 0).2=_
      rw[gaS_ok h1 l _ (Nat.mod_lt _ (by omega))]
      simp[hx]
    · rw[show mayN a x q=false by simp[mayN,hx]]
      show (gaS q l 0 1).2=_
      rw[gaS_one]
      simp[hx]
theorem may_eq (q:Nat) (l:List Nat):decide (kE (gaS q l 0 0).2 (okE (mayN 0 0 q))=0)=allN q l:=by
  unfold allN
  by_cases h1:1<q
  · rw[gaS_ok h1 l 0 (by omega),show mayN 0 0 q=true by simp[mayN,h1];omega,decide_eq_true h1,Bool.true_and]
    cases l.all (fun x=>decide (x<q))<;>rfl
  · rw[decide_eq_false h1,Bool.false_and,show mayN 0 0 q=false by simp[mayN,h1]]
    cases l with
    | nil=>rfl
    | cons x l =>
      have:(gaS q (x::l) 0 0).2=1:=by
        show (gaS q l _ (kE 0 (okE (mayN 0 x q)))).2=1
        rw[show mayN 0 x q=false by simp[mayN,h1]]
        exact gaS_one q l _
      rw[this];rfl
section
variable (p q g h:Nat)
set_option maxHeartbeats 1000000 in
theorem c_pmay (l:List Nat) (pt:Option Addr) (c:Nat) (hl:∀ x∈l,x<B256) (hn:l.length≤1099511627776) (hq:q<B256) :
    Fn Tryz.prog 187 [grpV p q g h,.slice pt l.length c] (RdF numC (.slice pt l.length c) l) (Is (.bool (allN q l))):=by
  have hG:=fun gF=>c_gather p q g h gF l pt c 0 0 B256_zero hl hn hq
  have hP:=fun gF=>c_fplus p q g h gF 0 0 (gaS q l 0 0).2 B256_zero B256_zero hq
  have hm:=may_eq q l
  rw[← hm]
  generalize (gaS q l 0 0).2=E at *
  generalize (gaS q l 0 0).1=A at *
  generalize okV (mayN 0 0 q) ((0+0)%q)=R at *
  generalize kE E (okE (mayN 0 0 q))=E2 at *
  refine Fn.enter Tryz.func187 rfl rfl rfl ?_
  intro w hw
  repeat (first|refine Ta ?_|(refine Tm ?_;intro _)|refine Tc ?_|exact Tz)
  rename_i g2 gF
  refine WO.mine (fun hmn=>?_)
  have hgF:w.heap.size≤gF:=(hmn _ (List.Mem.head _)).resolve_right (by simp)
  refine WO.callM rfl (hG gF) (by repeat (first|exact Rp.here|apply Rp.there)) (fun w1 hm1=>⟨hw.mod hm1.mod,fun b o e hne=>by
    subst e
    have:=RdF.lt (k:=3) (f:=numC) (fun _=>rfl) hw hne
    simp;omega⟩) (by decide) ?_ rfl rfl
  repeat (first|refine Ta ?_|(refine Tm ?_;intro _)|refine WO.callM rfl (hP gF) (by repeat (first|exact Rp.here|apply Rp.there)) (fun _ _=>trivial) (by decide) ?_ rfl rfl|refine Tc ?_|exact Tz)
  done
end
end Sx
end Go.Proofs.YtiiacjladnljhaaGreatDoor
namespace Go.Proofs.YtiiacjladnljhaaGreatDoor
open Go Go.RowKit Go.BigFrame
namespace Sx
theorem wp_Qn {P:Program} {o:Oper} {a:Act} {w:World} {k next:Act→World→Prop} {Q:Exit→Act→World→Prop} (h:o.wp P a w next (Qk k Q)):o.wp P a w next Q:=by
  unfold Oper.wp at *
  generalize (execOp a.eval o).run P w=r at *
  cases r with
  | ok n w' =>
    cases n<;>simp only[Oper.upon] at h ⊢<;>first|exact h|exact Calls.mono h (fun e w'' he=>by cases e<;>first|exact he|exact Qk.out he)
  | halt x w'=>cases x<;>simp only[Oper.upon] at h ⊢<;>exact h
theorem list_fwk {ro:Option Nat} {m:Nat} {P:Program} {ops:Array Oper} {Q:Exit→Act→World→Prop} {k:Act→World→Prop} {rest:List Oper} (hQ:¬ LetsOut Q) (hk:∀ a w,k a w→wpListIn (fw ro) m P ops Q rest a w) :
    ∀ {l:List Oper} {a:Act} {w:World},(∀ o∈l,∀ c,o.op≠.defer c)→wpList P ops (Qk k Q) l a w→wpListIn (fw ro) m P ops Q (l++rest) a w
  | [],_,_,_,h=>hk _ _ h
  | o::r,a,w,hd,h=>by
    unfold wpList at h
    rw[List.cons_append]
    unfold wpListIn
    split at h
    · rename_i hw
      rw[if_pos hw]
      rcases h with h|h
      · exact Oper.wpIn_mono (fun a w h=>list_fwk hQ hk (fun o ho=>hd o (by simp[ho])) h) (oper_fw (hd o (by simp)) (wp_Qn h))
      · exact absurd (Qk.out h.2) hQ
    · rename_i hw
      rw[if_neg hw]
      exact⟨fun _ _=>trivial,list_fwk hQ hk (fun o ho=>hd o (by simp[ho])) h⟩
section
variable (m:Nat) (P:Program) (w0:World) (gs:List Nat) (n:Nat) (ops:List Oper) (Q:Exit→Act→World→Prop) (K:List (Nat × Value)) (L:List Ent)
def WOI (rest:List Oper):Prop:=∀ a w,a.defers=[]→a.tmps.size=n→Kn K a→Me w0 gs L w→wpListIn (fw none) m P ops.toArray Q rest a w
end
section
variable {m:Nat} {P:Program} {w0:World} {gs:List Nat} {n:Nat} {ops:List Oper} {Q:Exit→Act→World→Prop} {K:List (Nat × Value)} {L:List Ent}
theorem WOI.of {rest:List Oper} (hQ:¬ LetsOut Q) (k:WO P w0 gs n ops Q K L rest) (hd:nodef rest=true:=by rfl):WOI m P w0 gs n ops Q K L rest:=fun a w h1 h2 h3 h4=>list_fw hQ (nodef_at hd) (k a w h1 h2 h3 h4)
theorem WX.woi {rest:List Oper} {Q' : Exit→Act→World→Prop} (k:WOI m P w0 gs n ops Q K L rest):WX w0 gs n .normal (Qk (wpListIn (fw none) m P ops.toArray Q rest) Q') K L:=k
theorem WI.regionY {id:Nat} {l:List Oper} (j:Nat) (hQ:¬ LetsOut Q) (k:WO P w0 gs n l (Qk (wpListIn (fw none) m P l.toArray Q (l.drop j)) Q) K L (l.take j)) (hd:nodef l=true:=by rfl):WI none m P w0 gs n (.region id l.toArray false) Q K L:=fun a w h1 h2 h3 h4=>by
  refine wpIn_region_lit ?_
  have h:=list_fwk (ro:=none) (m:=m) (rest:=l.drop j) hQ (fun _ _ h=>h) (l:=l.take j) (fun o ho=>nodef_at hd o (List.mem_of_mem_take ho)) (k a w h1 h2 h3 h4)
  rwa [List.take_append_drop] at h
theorem WOI.yield {rest:List Oper} {d l:Nat} {x:Operand} {xs:Array Operand} {ats:Array TypeId} {ty:TypeId} {pos:String} {after:Array Edge} {vs:List Value} {R:World→Ending→World→Prop}
    (hx:ev K x=some (.func (.yield l) #[] #[])) (ha:evs K xs.toList=some vs)
    (hy:∀ w,Me w0 gs L w→YieldAt (fw none) (m - 1) P l vs.toArray w (R w))
    (k:∀ w e w',Me w0 gs L w→R w e w'→∃ b,e=.returned (.bool b)∧WOI m P w' [] n ops Q ((d,.bool b)::K) [] rest)
    (hd:Nat.blt d n=true:=by rfl):WOI m P w0 gs n ops Q K L (⟨some d,.call { callee:=.value x,args:=xs,argTypes:=ats },ty,pos,after,none⟩::rest):=by
  intro a w h1 h2 h3 h4
  have hd' : d<n:=by simpa [Nat.blt_eq] using hd
  unfold wpListIn
  simp only[Region.wanted]
  rw[if_pos trivial]
  refine⟨fun _ _=>trivial,?_⟩
  rw[Oper.semAt_eq _ _ _ (by intro c hc;cases hc)]
  obtain⟨fn,tmps,assign,body,h5,h6⟩:=hy w h4
  have hrun:(execOp a.eval ⟨some d,.call { callee:=.value x,args:=xs,argTypes:=ats },ty,pos,after,none⟩).run P w=.ok (.round l fn tmps assign body) w:=by
    have e1:=h3.eval hx
    have e2:xs.map a.eval=vs.toArray:=by have h:=h3.evals ha;apply Array.ext';simpa using h
    simp only[execOp,resolve,e1,e2,Deferred.ofValue,Sem.run_bind,Sem.run_pure,Result.andThen_ok,invoke]
    simpa using h5
  rw[hrun]
  refine⟨fun h=>by simp[fw] at h,h6.mono ?_⟩
  intro e w' hR
  obtain⟨b,rfl,hk⟩:=k w e w' h4 hR
  exact hk (a.put (some d) (.bool b)) w' (by rw[put_defers];exact h1) (by rw[put_size];exact h2) (h3.put (by omega) _) (Me.refl w' [])
end
section
variable (ro:Option Nat) (m:Nat) (P:Program) (w0:World) (gs:List Nat) (n:Nat) (ops:List Oper) (Q:Exit→Act→World→Prop) (K:List (Nat × Value)) (L:List Ent)
def VR (S:List Bool) (f:Nat):Prop:=¬ LetsOut Q→nodef ops=true→∀ a w,a.defers=[]→a.tmps.size=n→Kn K a→Me w0 gs L w→wpAnyIn (fw ro) m P .any ops.toArray Q f S.toArray a w
def EachR (S:List Bool) (f:Nat):List Nat→Prop
  | []=>True
  | i::r=>(∃ o,nth ops i=some o∧(¬ LetsOut Q→nodef ops=true→WO P w0 gs n ops (Qk (wpAnyIn (fw ro) m P .any ops.toArray Q f (S.set i true).toArray) Q) K L [o]))∧EachR S f r
end
section
variable {ro:Option Nat} {m:Nat} {P:Program} {w0:World} {gs:List Nat} {n:Nat} {ops:List Oper} {Q:Exit→Act→World→Prop} {K:List (Nat × Value)} {L:List Ent}
theorem wpOpIn_QkR {i:Nat} {o:Oper} {a:Act} {w:World} {k:Act→World→Prop} {ops:Array Oper} (hQ:¬ LetsOut Q) (hd:∀ c,o.op≠.defer c) (ho:ops[i]?=some o) (h:wpList P ops (Qk k Q) [o] a w):wpOpIn (fw ro) m P ops Q i k a w:=by
  unfold wpOpIn
  rw[ho]
  unfold wpList at h
  split at h
  · rename_i hw
    simp only[hw,if_true]
    rcases h with h|h
    · exact oper_fw hd (wp_Qk h)
    · exact absurd (Qk.out h.2) hQ
  · rename_i hw
    simp only[hw]
    exact⟨fun _ _=>trivial,h⟩
theorem EachR.at {S:List Bool} {f:Nat}:∀ {rs:List Nat},EachR ro m P w0 gs n ops Q K L S f rs→∀ i∈rs,∃ o,nth ops i=some o∧(¬ LetsOut Q→nodef ops=true→WO P w0 gs n ops (Qk (wpAnyIn (fw ro) m P .any ops.toArray Q f (S.set i true).toArray) Q) K L [o])
  | i::r,h,j,hj=>by
    rcases List.mem_cons.1 hj with rfl|hj
    · exact h.1
    · exact EachR.at h.2 j hj
theorem VR.step {S:List Bool} {f:Nat} (rs:List Nat) (k:EachR ro m P w0 gs n ops Q K L S f rs) (hr:Region.ready .any ops.toArray S.toArray=rs:=by decide +kernel) (hne:rs≠[]:=by decide):VR ro m P w0 gs n ops Q K L S (f+1):=by
  intro hQ hd a w h1 h2 h3 h4
  refine⟨fun h0=>absurd (hr.symm.trans h0) hne,fun i hi=>?_⟩
  rw[hr] at hi
  obtain⟨o,ho,hk⟩:=k.at i hi
  have ho' : ops[i]?=some o:=by simpa [nth_eq] using ho
  have:=wpOpIn_QkR (ro:=ro) (m:=m) (k:=wpAnyIn (fw ro) m P .any ops.toArray Q f (S.set i true).toArray) (Q:=Q) (ops:=ops.toArray) (i:=i) (o:=o) (P:=P) hQ (nodef_at hd o (List.mem_of_getElem? ho')) (by simpa using ho') (hk hQ hd a w h1 h2 h3 h4)
  simpa using this
theorem VR.done {S:List Bool} (k:WX w0 gs n .normal Q K L) (hr:Region.ready .any ops.toArray S.toArray=[]:=by decide +kernel):VR ro m P w0 gs n ops Q K L S 0:=fun _ _ a w h1 h2 h3 h4=>⟨hr,k a w h1 h2 h3 h4⟩
theorem EachR.nil {S:List Bool} {f:Nat}:EachR ro m P w0 gs n ops Q K L S f []:=trivial
theorem EachR.cons {S:List Bool} {f i:Nat} {r:List Nat} {o:Oper} (k:¬ LetsOut Q→nodef ops=true→WO P w0 gs n ops (Qk (wpAnyIn (fw ro) m P .any ops.toArray Q f (S.set i true).toArray) Q) K L [o]) (kr:EachR ro m P w0 gs n ops Q K L S f r) (ho:nth ops i=some o:=by rfl):EachR ro m P w0 gs n ops Q K L S f (i::r):=⟨⟨o,ho,k⟩,kr⟩
theorem WX.vr {S S' : List Bool} {f i:Nat} {Q' : Exit→Act→World→Prop} (k:VR ro m P w0 gs n ops Q K L S' f) (hQ:¬ LetsOut Q) (hd:nodef ops=true) (hS:S.set i true=S':=by rfl):WX w0 gs n .normal (Qk (wpAnyIn (fw ro) m P .any ops.toArray Q f (S.set i true).toArray) Q') K L:=by
  subst hS
  exact k hQ hd
theorem VR.less {S:List Bool} {f:Nat} (K' : List (Nat × Value)) (L' : List Ent) (k:VR ro m P w0 gs n ops Q K' L' S f)
    (hk:Kle K' K:=by (repeat (first|exact Kle.nil|refine Kle.cons rfl rfl ?_)))
    (hl:Lle L' L:=by (repeat (first|exact Lle.nil|refine Lle.cons (by repeat (first|exact Pk.here|apply Pk.there)) rfl ?_))):VR ro m P w0 gs n ops Q K L S f:=fun hQ hd a w h1 h2 h3 h4=>k hQ hd a w h1 h2 (hk.kn h3) (hl.me h4)
theorem VR.all {id:Nat} {l:List Oper} [Mix P] (hQ:¬ LetsOut Q) (k:VR ro m P w0 gs n l Q K L (List.replicate l.length false) l.length) (hd:nodef l=true:=by rfl):WI ro m P w0 gs n (.region id l.toArray true) Q K L:=by
  intro a w h1 h2 h3 h4
  refine wpIn_region_any Mix.out ?_
  have:=k hQ hd a { w with drawn:=w.drawn+1 } h1 h2 h3 h4.drawn
  simpa using this
theorem WI.headR {id:Nat} {l:List Oper} [Mix P] (K' : List (Nat × Value)) (L' : List Ent) (S' : List Bool) (f:Nat) (hQ:¬ LetsOut Q) (h:∀ Q,∀ A:List (Nat × Value)→List Ent→List Bool→Nat→Prop,(∀ K L S f,A K L S f↔VR ro m P w0 gs n l Q K L S f)→A K' L' S' f→A K L (List.replicate l.length false) l.length)
    (hC:VR ro m P w0 gs n l Q K' L' S' f) (hd:nodef l=true:=by rfl):WI ro m P w0 gs n (.region id l.toArray true) Q K L:=VR.all hQ (h Q _ (fun _ _ _ _=>Iff.rfl) hC) hd
end
end Sx
end Go.Proofs.YtiiacjladnljhaaGreatDoor
namespace Go.Proofs.YtiiacjladnljhaaGreatDoor
open Go Go.RowKit Go.BigFrame
namespace Sx
attribute [local irreducible] DQ DQS WO WC
theorem c_Backward (pa:Option Addr) (la ca:Nat):Fn Tryz.prog 244 [.slice pa la ca] Tr (Ex (fun s=>.func (.func 265) #[] #[pt (s 0)]) (fun s=>[⟨s 0,30,[.slice pa la ca]⟩]) (fun _=>True)):=by
  refine Fn.enter Tryz.func244 rfl rfl rfl ?_
  intro w hw
  repeat (first|refine Ta ?_|(refine Tm ?_;intro _)|refine WO.does (does_func rfl rfl) ?_|refine Tc ?_|exact Tz)
  rename_i g1
  exact WX.ret1 rfl (rv_tmp rfl) [⟨g1,30,[.slice pa la ca]⟩] (Lle.cons Pk.here rfl Lle.nil) ⟨fun _=>g1,rfl,rfl,trivial⟩
set_option maxHeartbeats 2000000 in
theorem back_in (m:Nat) {α:Type} (fi fa:α→Nat) (xs:List α) (pa:Option Addr) (gA bA oA cA l:Nat) (J Jx:List α→World→Prop) (hn:xs.length≤1099511627776) (hJo:∀ s A B,J s A→Mod [] A B→J s B) (hJxo:∀ s A B,Jx s A→Mod [] A B→Jx s B)
    (hY:∀ pre x W,J pre W→pre.length<xs.length→YieldAt (fw none) (m - 1) Tryz.prog l #[.int .i64 (fi x:Int),numV (fa x)] W fun e W'=>(e=.returned (.bool true)∧J (pre++[x]) W'∧KeepB [gA,bA] W W'∧W.heap.size≤W'.heap.size)∨(e=.returned (.bool false)∧Jx (pre++[x]) W'))
    (W:World) (hA:Seg W gA 0 [.slice pa xs.length cA]) (hpa:xs≠[]→pa=some ⟨bA,oA,none⟩) (hfi:∀ k x,xs[k]?=some x→fi x=xs.length - 1 - k) (hSA:∀ k x,xs[k]?=some x→Seg W bA (oA+(xs.length - 1 - k)*4) (numC (fa x))) (hlt:∀ k∈[gA,bA],k<W.heap.size) (h0:J [] W) :
    CallsIn (fw none) m Tryz.prog 265 [.func (.yield l) #[] #[],pt gA].toArray W fun e W'=>(∃ v,e=.returned v)∧((∃ ys,ys=xs∧J ys W')∨(∃ pre,True∧Jx pre W')):=by
  refine callsIn_enter (n:=19) Tryz.func265 rfl rfl rfl ?_
  have hQ:¬ LetsOut (bodyPost Tryz.prog Tryz.f265 fun e W'=>(∃ v,e=.returned v)∧((∃ ys,ys=xs∧J ys W')∨(∃ pre,True∧Jx pre W'))):=by
    rintro ⟨a,w,⟨v,h⟩,_⟩
    cases h
  have e0:IntKind.i64.wrap ((xs.length:Int) - 1)=(xs.length:Int) - 1 - ((0:Nat):Int):=i64_in' (by omega) (by omega) (by omega)
  refine WI.seq (WI.region ?_ (by exact hQ))
  refine WO.does (a_loadF1 (hs:=hA)) ?_
  refine WO.auto (k:=?_)
  refine WO.does (does_sub rfl rfl e0) ?_
  refine WO.auto (k:=?_)
  refine WO.nil (WX.seqI ?_)
  refine WI.block ?_
  refine WI.loopW (σ:=Nat) (fun k=>[(0,.func (.yield l) #[] #[]),(1,pt gA),(3,.int .i64 ((xs.length:Int) - 1 - (k:Int)))]) (fun k w=>k≤xs.length∧J (xs.take k) w∧KeepB [gA,bA] W w∧W.heap.size≤w.heap.size) (fun k=>xs.length - k) 0 (fun w hw=>⟨Nat.zero_le _,?_,?_,hw.mod.size⟩) ?_ ?_
  · have:=hJo [] W w h0 hw.mod
    simpa using this
  · exact KeepB.of_mod hw.mod (fun k hk=>⟨hlt k hk,by simp⟩)
  · repeat (first|exact Kle.nil|refine Kle.cons rfl rfl ?_)
  · rintro k w1 ⟨hk,hJ,hKp,hsz⟩
    have hlw:∀ j∈[gA,bA],j<w1.heap.size:=fun j hj=>Nat.lt_of_lt_of_le (hlt j hj) hsz
    have hA':=hKp.seg (b:=gA) (by simp) hA
    refine WI.seq (WI.seq (WI.region ?_ (by exact hQ)))
    refine WO.auto (k:=?_)
    by_cases hkl:k<xs.length
    · rw[show (xs.length:Int) - 1 - (k:Int)=((xs.length - 1 - k:Nat):Int) by omega]
      refine WO.does (does_geqY rfl rfl (by omega)) ?_
      refine WO.nil (WX.seqI ?_)
      refine WI.condT rfl ?_
      refine WI.skip (WX.seqI ?_)
      obtain⟨x,hx⟩ : ∃ x,xs[k]?=some x:=⟨_,List.getElem?_eq_getElem hkl⟩
      have hSA':=hKp.seg (b:=bA) (by simp) (hSA k x hx)
      have hfx:=hfi k x hx
      have hx' : xs.take k++[x]=xs.take (k+1):=by rw[List.take_add_one,hx];rfl
      have hix:xs.length - 1 - k<xs.length:=by omega
      obtain rfl:=hpa (by rintro rfl;simp at hkl)
      generalize hj:xs.length - 1 - k=j at *
      have e1:IntKind.i64.wrap ((j:Int) - 1)=(xs.length:Int) - 1 - ((k+1:Nat):Int):=i64_in' (by omega) (by omega) (by omega)
      refine WI.seq ?_
      refine WI.block ?_
      refine WI.seq (WI.regionY 6 (by exact hQ) ?_)
      simp only[List.take_succ_cons,List.take_zero,List.drop_succ_cons,List.drop_zero]
      refine WO.does (does_move rfl) ?_
      refine WO.does (does_move rfl) ?_
      refine WO.does (a_loadF1 (hs:=hA')) ?_
      refine WO.does (does_move rfl) ?_
      refine WO.does (does_indexSlice (o':=oA+j*4) rfl rfl hix rfl) ?_
      refine WO.does (a_loadF (vs:=numC (fa x)) (hs:=hSA')) ?_
      refine WO.nil (WX.woi ?_)
      refine WOI.yield (vs:=[.int .i64 (j:Int),numV (fa x)]) rfl rfl (fun w2 h2=>hfx ▸ hY (xs.take k) x w2 (hJo _ _ _ hJ h2.mod) (by rw[List.length_take];omega)) (fun w2 e w3 h2 hR=>?_)
      have hKw:KeepB [gA,bA] W w2:=hKp.trans (KeepB.of_mod h2.mod (fun j hj=>⟨hlw j hj,by simp⟩))
      have hs2:=Nat.le_trans hsz h2.mod.size
      rcases hR with ⟨rfl,hR,hK3,hs3⟩|⟨rfl,hR⟩
      · refine⟨true,rfl,?_⟩
        rw[hx'] at hR
        refine WOI.of (by exact hQ) ?_
        refine WO.auto (k:=?_)
        refine WO.nil (WX.seqI ?_)
        refine WI.condF rfl ?_
        refine WI.skip (WX.blk_normal (WX.seqI ?_))
        refine WI.region ?_ (by exact hQ)
        refine WO.auto (k:=?_)
        refine WO.does (does_sub rfl rfl e1) ?_
        refine WO.auto (k:=?_)
        refine WO.nil ?_
        refine WX.metW (k+1) (by omega) (by repeat (first|exact Kle.nil|refine Kle.cons rfl rfl ?_)) (fun w4 h4=>⟨by omega,hJo _ _ _ hR h4.mod,?_,Nat.le_trans hs2 (Nat.le_trans hs3 h4.mod.size)⟩)
        exact (hKw.trans hK3).trans (KeepB.of_mod h4.mod (fun j hj=>⟨Nat.lt_of_lt_of_le (hlt j hj) (Nat.le_trans hs2 hs3),by simp⟩))
      · refine⟨false,rfl,?_⟩
        rw[hx'] at hR
        refine WOI.of (by exact hQ) ?_
        refine WO.auto (k:=?_)
        refine WO.nil (WX.seqI ?_)
        refine WI.condT rfl ?_
        refine WI.ret ?_
        refine WX.blk_ret (WX.then_ret (WX.then_ret (WX.blk_ret ?_)))
        intro a w4 g1 g2 g3 g4
        exact bodyPost_ret (results_none rfl _ _ _) g1 ⟨⟨_,rfl⟩,.inr ⟨_,trivial,hJxo _ _ _ hR g4.mod⟩⟩
    · refine WO.does (does_geqN rfl rfl (by omega)) ?_
      refine WO.nil (WX.seqI ?_)
      refine WI.condF rfl ?_
      refine WI.exit (WX.then_exit (WX.then_exit (WX.blk_exit ?_)))
      intro a w4 g1 g2 g3 g4
      obtain rfl:k=xs.length:=by omega
      refine bodyPost_end (results_none rfl _ _ _) g1 ⟨⟨_,rfl⟩,.inl ⟨xs,rfl,?_⟩⟩
      have:=hJo _ _ _ hJ g4.mod
      rwa [List.take_length] at this
abbrev CoT (q:Nat):Type:={ x:Nat × Nat // x.2<q }
def backs {q:Nat} (l:List Nat) (h:∀ c∈l,c<q):Nat→List (CoT q)
  | 0=>[]
  | j+1=>if hj:j<l.length then ⟨(j,l[j]),h _ (List.getElem_mem hj)⟩::backs l h j else []
theorem backs_len {q:Nat} {l:List Nat} (h:∀ c∈l,c<q):∀ j,j≤l.length→(backs l h j).length=j
  | 0,_=>rfl
  | j+1,hj=>by rw[backs,dif_pos (by omega),List.length_cons,backs_len h j (by omega)]
theorem backs_get {q:Nat} {l:List Nat} (h:∀ c∈l,c<q):∀ j,j≤l.length→∀ k x,(backs l h j)[k]?=some x→x.1.1=j - 1 - k∧l[j - 1 - k]?=some x.1.2
  | 0,_,k,x,hx=>by simp[backs] at hx
  | j+1,hj,k,x,hx=>by
    rw[backs,dif_pos (by omega)] at hx
    cases k with
    | zero =>
      simp at hx
      rw[← hx]
      simp
    | succ k =>
      have:=backs_get h j (by omega) k x (by simpa using hx)
      rw[show j+1 - 1 - (k+1)=j - 1 - k by omega]
      exact this
theorem backs_fold {q:Nat} {l:List Nat} (h:∀ c∈l,c<q) (st:Nat→Nat→Nat):∀ j,j≤l.length→∀ r,(backs l h j).foldl (fun r (x:CoT q)=>st r x.1.2) r=(l.take j).reverse.foldl st r
  | 0,_,r=>by simp[backs]
  | j+1,hj,r=>by
    have e:l.take (j+1)=l.take j++[l[j]'(by omega)]:=by rw[List.take_add_one,List.getElem?_eq_getElem (show j<l.length by omega)];rfl
    rw[backs,dif_pos (by omega),List.foldl_cons,backs_fold h st j (by omega),e,List.reverse_append]
    rfl
def hornF (q x:Nat) (l:List (CoT q)):Nat:=l.foldl (fun r c=>(r*x%q+c.1.2)%q) 0
theorem hornF_snoc (q x:Nat) (l:List (CoT q)) (c:CoT q):hornF q x (l++[c])=(hornF q x l*x%q+c.1.2)%q:=by unfold hornF;rw[List.foldl_append];rfl
theorem hornF_lt {q x:Nat} (h:1<q) (l:List (CoT q)):hornF q x l<q:=by
  rcases List.eq_nil_or_concat l with rfl|⟨l,c,rfl⟩
  · show 0<q;omega
  · rw[List.concat_eq_append,hornF_snoc];exact Nat.mod_lt _ (by omega)
theorem hornN_fold (q x:Nat) (l:List Nat):hornN q x l=l.foldr (fun c r=>(r*x%q+c)%q) 0:=by
  induction l with
  | nil=>rfl
  | cons c r ih=>simp only[hornN,List.foldr_cons,ih]
theorem hornF_backs {q:Nat} (x:Nat) {l:List Nat} (h:∀ c∈l,c<q):hornF q x (backs l h l.length)=polyN l x%q:=by
  rw[← hornN_eq,hornN_fold,hornF,backs_fold h (fun r c=>(r*x%q+c)%q) _ (Nat.le_refl _),List.take_length,List.foldl_reverse]
end Sx
end Go.Proofs.YtiiacjladnljhaaGreatDoor
