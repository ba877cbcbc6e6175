/- Part 39 of the proof: OrA, OrB -/
import Derived.Test.YtiiacjladnljhaaGreatDoorM33
import Derived.Test.YtiiacjladnljhaaGreatDoorM38
set_option linter.unusedSimpArgs false
set_option linter.unusedVariables false
namespace Go.Proofs.YtiiacjladnljhaaGreatDoor
open Go Go.RowKit Go.BigFrame
namespace Sx
attribute [local irreducible] wd DQ DQS WO WC WX
theorem c_oof (ep d:Nat) (hd:d<256):Fn Tryz.prog 23 [.int .u64 (ep:Int),.int .u8 (d:Int)] Tr (Is (.agg #[.int .u64 (ep:Int),.int .u64 (d:Int)])):=by
  have hcv:IntKind.u64.wrap (d:Int)=(d:Int):=u64_in (by omega) (by omega)
  refine Fn.enter Tryz.func23 rfl rfl rfl ?_
  intro w hw
  repeat (first|refine Ta ?_|(refine Tm ?_;intro _)|refine WO.does (does_conv rfl hcv) ?_|refine WO.does (does_buildA (cs:=[.int .u64 (ep:Int),.int .u64 (d:Int)]) rfl rfl rfl) ?_|refine Tc ?_|exact Tz)
theorem key_pair (a b:Nat) (ha:a<18446744073709551616) (hb:b<18446744073709551616):Tryz.prog.keyLits 2 81 [.int .u64 (a:Int),.int .u64 (b:Int)]=some [.int .u64 (a:Int),.int .u64 (b:Int)]:=by
  have c1:Tryz.prog.cellsOf 81=2:=by kernel_rfl
  have c2:Tryz.prog.cellsOf 22=1:=by kernel_rfl
  have k1:=key_word a ha
  have k2:=key_word b hb
  have r:List.range 2=[0,1]:=rfl
  unfold Program.keyLits
  simp[Tryz.underlying81,c1,c2,r,k1,k2]
theorem guard_pair (op:BinOp) (x y:Operand) (a b:Array Value) (w:World):(eqGuard op 81 x y (.agg a) (.agg b)).run Tryz.prog w=.ok () w:=by cases op<;>kernel_rfl
section
variable {w0:World} {gs:List Nat} {K:List (Nat × Value)} {L:List Ent}
theorem a_neqPair {x y:Operand} {yt ty:TypeId} {a b c d:Nat} (hx:ev K x=some (.agg #[.int .u64 (a:Int),.int .u64 (b:Int)])) (hy:ev K y=some (.agg #[.int .u64 (c:Int),.int .u64 (d:Int)]))
    (ha:a<18446744073709551616) (hb:b<18446744073709551616) (hc:c<18446744073709551616) (hd:d<18446744073709551616) :
    Does Tryz.prog w0 gs K L (.binOp .neq 81 x y yt) ty (.bool (!(decide (a=c) && decide (b=d)))):=by
  intro ac w hk _ o ho _
  obtain⟨r,hr,hiff⟩:=run_equalIn_deep (P:=Tryz.prog) 9998 2 81 (by kernel_rfl) w 2 2 (.agg #[.int .u64 (a:Int),.int .u64 (b:Int)]) (.agg #[.int .u64 (c:Int),.int .u64 (d:Int)])
    [.int .u64 (a:Int),.int .u64 (b:Int)] [.int .u64 (c:Int),.int .u64 (d:Int)] (by kernel_rfl) (by kernel_rfl) (key_pair a b ha hb) (key_pair c d hc hd)
  have e:r=(decide (a=c) && decide (b=d)):=by
    rw[Bool.eq_iff_iff,hiff]
    simp only[Bool.and_eq_true,decide_eq_true_eq,List.cons.injEq,Lit.int.injEq,true_and,and_true,Int.ofNat_inj]
  subst e
  simp only[execOp,ho,hk.eval hx,hk.eval hy,Sem.run_bind,guard_pair,Result.andThen_ok,run_neq_struct,hr,Sem.run_pure]
theorem a_neqPairV {x y:Operand} {yt ty:TypeId} {a b c d:Nat} {r:Bool} (hx:ev K x=some (.agg #[.int .u64 (a:Int),.int .u64 (b:Int)])) (hy:ev K y=some (.agg #[.int .u64 (c:Int),.int .u64 (d:Int)]))
    (ha:a<18446744073709551616) (hb:b<18446744073709551616) (hc:c<18446744073709551616) (hd:d<18446744073709551616) (hr:(!(decide (a=c) && decide (b=d)))=r) :
    Does Tryz.prog w0 gs K L (.binOp .neq 81 x y yt) ty (.bool r):=by
  subst hr
  exact a_neqPair hx hy ha hb hc hd
end
section
variable (p q g h:Nat) (f sec:Int) (pt:Option Addr) (c:Nat) (N:List (Nat × Nat))
theorem c_onode (n:Nat) (hn:n<256) (hNl:N.length≤1099511627776):Fn Tryz.prog 24 [stV p q g h f sec (.slice pt N.length c),.int .u8 (n:Int)] Tr (Is (.bool (nodeB n N))):=by
  have hcv:IntKind.i64.wrap (n:Int)=(n:Int):=i64_in (by omega) (by omega)
  unfold nodeB
  by_cases h1:1≤n
  · rw[decide_eq_true h1,Bool.true_and]
    have d1:decide ((1:Int)≤(n:Int))=true:=decide_eq_true (by omega)
    have d2:decide ((n:Int)≤(N.length:Int))=decide (n≤N.length):=by simp
    refine Fn.enter Tryz.func24 rfl rfl rfl ?_
    intro w hw
    repeat (first|refine Ta ?_|(refine Tm ?_;intro _)|refine Tc ?_|exact Tz)
    rw[d1]
    repeat (first|refine Ta ?_|(refine Tm ?_;intro _)|refine WO.does (does_conv rfl hcv) ?_|refine Tc ?_|exact Tz)
    rw[d2]
    repeat (first|refine Ta ?_|(refine Tm ?_;intro _)|refine Tc ?_|exact Tz)
  · rw[decide_eq_false h1,Bool.false_and]
    have d1:decide ((1:Int)≤(n:Int))=false:=decide_eq_false (by omega)
    refine Fn.enter Tryz.func24 rfl rfl rfl ?_
    intro w hw
    repeat (first|refine Ta ?_|(refine Tm ?_;intro _)|refine Tc ?_|exact Tz)
    rw[d1]
    repeat (first|refine Ta ?_|(refine Tm ?_;intro _)|refine Tc ?_|exact Tz)
end
section
variable {ls:List Od} {i o:Nat} {x:Od}
theorem od_cutO (h:ls[i]?=some x):cut (ls.flatMap odC) (o+i*15 - o) 15=odC x:=by
  rw[Nat.add_sub_cancel_left];exact cut_flatP (f:=odC) (k:=15) (fun _=>rfl) h
theorem cut_at {cs vs:List Value} {a k j:Nat} {v:Value} (h:cut cs a k=vs) (hv:vs[j]?=some v) (hj:j<k):cs[a+j]?=some v:=by
  rw[← h] at hv
  unfold cut at hv
  rw[List.getElem?_take,if_pos hj,List.getElem?_drop] at hv
  exact hv
theorem cut_sub {cs vs us:List Value} {a k j m:Nat} (h:cut cs a k=vs) (hv:cut vs j m=us) (hj:j+m≤k):cut cs (a+j) m=us:=by
  rw[← hv,← h]
  unfold cut
  rw[List.drop_take,List.take_take,Nat.min_eq_left (by omega),List.drop_drop]
theorem od_at (h:ls[i]?=some x) {j:Nat} {v:Value} (hv:(odC x)[j]?=some v) (hj:j<15):(ls.flatMap odC)[o+i*15+j - o]?=some v:=by
  have:=cut_at (od_cutO (o:=o) h) hv hj
  rw[show o+i*15+j - o=o+i*15 - o+j by omega]
  exact this
theorem od_z (h:ls[i]?=some x):cut (ls.flatMap odC) (o+i*15+3 - o) 4=numC x.z:=by
  rw[show o+i*15+3 - o=o+i*15 - o+3 by omega]
  exact cut_sub (od_cutO (o:=o) h) rfl (by omega)
end
def od0:Od:=⟨0,0,0,0,0,0⟩
def odB (p:Nat) (N:List (Nat × Nat)) (a o:Od):Bool:=decide (o.e=a.e) && decide (o.d=a.d) && nodeB o.n N && gMay p o.z
def raiseB (p q g h:Nat) (f sec:Int) (N:List (Nat × Nat)) (ls:List Od):Bool:=setB p q g h f sec N && decide (f+sec≤(ls.length:Int)) && ls.all (odB p N (ls.headD od0)) && decide ((ls.map Od.n).Nodup)
end Sx
end Go.Proofs.YtiiacjladnljhaaGreatDoor
namespace Go.Proofs.YtiiacjladnljhaaGreatDoor
open Go Go.RowKit Go.BigFrame
namespace Sx
attribute [local irreducible] wd DQ DQS WO WC WX
def rArr (n:Nat) (M:Nat) (ls:List Od):List Od:=(byN n ls).take M
def rKs (n M:Nat) (ls:List Od):List Nat:=(rArr n M ls).map fun o=>o.n - 1
def rZs (n M:Nat) (ls:List Od):List Nat:=(rArr n M ls).map Od.z
def RsP (b:Bool) (P:Value→List Ent→Prop):Value→List Ent→Prop:=fun v N=>(b=true→P v N)∧(b=false→v=nilE)
theorem RsP.no {b:Bool} {P:Value→List Ent→Prop} {N:List Ent} (h:b=false):RsP b P nilE N:=⟨fun e=>(by rw[h] at e;cases e),fun _=>rfl⟩
theorem RsP.ok {b:Bool} {P:Value→List Ent→Prop} {v:Value} {N:List Ent} (h:b=true) (k:P v N):RsP b P v N:=⟨fun _=>k,fun e=>(by rw[h] at e;cases e)⟩
theorem byN_perm {n:Nat} {l:List Od} (hd:(l.map Od.n).Nodup) (hn:∀ o∈l,1≤o.n∧o.n≤n):(byN n l).Perm l:=by
  have h:=sort_byN (arr:=l.mergeSort (fun a b=>decide (a.n≤b.n))) (List.mergeSort_perm l _) (by
    have:=List.pairwise_mergeSort (le:=fun a b:Od=>decide (a.n≤b.n)) (by intro a b c h1 h2;simp at h1 h2 ⊢;omega) (by intro a b;simp;omega) l
    exact this.imp (fun h=>by simpa using h)) hd hn
  rw[← h]
  exact List.mergeSort_perm l _
section
variable {p q g h:Nat} {f sec:Int} {N:List (Nat × Nat)} {ls:List Od}
theorem raiseB_odB {x:Od} (hx:x∈ls) (ho:odB p N (ls.headD od0) x=false):raiseB p q g h f sec N ls=false:=by
  unfold raiseB
  rw[show ls.all (odB p N (ls.headD od0))=false by
    rw[List.all_eq_false];exact⟨x,hx,by rw[ho];decide⟩,Bool.and_false];rfl
theorem raiseB_dup {k i:Nat} {x y:Od} (hk:ls[k]?=some y) (hi:ls[i]?=some x) (hki:k<i) (he:y.n=x.n):raiseB p q g h f sec N ls=false:=by
  unfold raiseB
  rw[show decide ((ls.map Od.n).Nodup)=false from decide_eq_false (fun hd=>by
    rw[List.Nodup,List.pairwise_map] at hd
    obtain⟨k1,e1⟩:=List.getElem?_eq_some_iff.1 hk
    obtain⟨k2,e2⟩:=List.getElem?_eq_some_iff.1 hi
    exact List.pairwise_iff_getElem.1 hd k i k1 k2 hki (by rw[e1,e2];exact he)),Bool.and_false]
theorem raiseB_ok (hs:setB p q g h f sec N=true) (hl:f+sec≤(ls.length:Int)) (ha:∀ (j:Nat) (x:Od),ls[j]?=some x→odB p N (ls.headD od0) x=true) (hd:∀ (k j:Nat) (x y:Od),k<j→ls[k]?=some y→ls[j]?=some x→y.n≠x.n):raiseB p q g h f sec N ls=true:=by
  unfold raiseB
  rw[hs,decide_eq_true hl,List.all_eq_true.2 (fun x hx=>by obtain⟨j,hj⟩:=List.getElem?_of_mem hx;exact ha j x hj),decide_eq_true]
  · rfl
  · rw[List.Nodup,List.pairwise_map,List.pairwise_iff_getElem]
    intro i j hi hj hij
    exact hd i j _ _ hij (List.getElem?_eq_getElem hi) (List.getElem?_eq_getElem hj)
theorem raiseB_spec (hB:raiseB p q g h f sec N ls=true):setB p q g h f sec N=true∧f+sec≤(ls.length:Int)∧(∀ x∈ls,odB p N (ls.headD od0) x=true)∧(ls.map Od.n).Nodup:=by
  unfold raiseB at hB
  simp only[Bool.and_eq_true,decide_eq_true_eq,List.all_eq_true] at hB
  exact⟨hB.1.1.1,hB.1.1.2,hB.1.2,hB.2⟩
theorem odB_spec {a x:Od} (hB:odB p N a x=true):x.e=a.e∧x.d=a.d∧1≤x.n∧x.n≤N.length∧gMay p x.z=true:=by
  unfold odB at hB
  simp only[Bool.and_eq_true,decide_eq_true_eq] at hB
  have:=nodeB_spec hB.1.2
  exact⟨hB.1.1.1,hB.1.1.2,this.1,this.2,hB.2⟩
end
def curL (ls:List Od) (n i:Nat):List Od:=byN n ls++(ls.take i).filter (fun o=>o.n=n+1)
theorem curL_all {ls:List Od} {n:Nat}:curL ls n ls.length=byN (n+1) ls:=by
  unfold curL byN
  rw[List.take_length,List.range_succ,List.flatMap_append];simp
theorem curL_none {ls:List Od} {n:Nat}:curL ls n 0=byN n ls:=by unfold curL;simp
theorem curL_yes {ls:List Od} {n i:Nat} {x:Od} (hx:ls[i]?=some x) (h:x.n=n+1):curL ls n (i+1)=curL ls n i++[x]:=by
  unfold curL
  rw[List.take_add_one,hx,List.filter_append,List.append_assoc]
  simp[h]
theorem curL_no {ls:List Od} {n i:Nat} {x:Od} (hx:ls[i]?=some x) (h:¬ x.n=n+1):curL ls n (i+1)=curL ls n i:=by
  unfold curL
  rw[List.take_add_one,hx,List.filter_append]
  simp[h]
def kI (o:Od):List Value:=intC (o.n - 1)
def zI (o:Od):List Value:=numC o.z
def iaL (g:Nat) (B r:List Value):Nat→List Ent
  | 0=>[]
  | _+1=>[⟨g,3,B++r⟩]
theorem rd_ks {n M c:Nat} {ls:List Od} {r:List Value} {w:World} {gg:Nat} (hs:Seg w gg 0 ((byN n ls).flatMap kI++r)) (hM:M≤(byN n ls).length):RdF intC (.slice (some ⟨gg,0,none⟩) M c) (rKs n M ls) w:=by
  have h:RdF intC (.slice (some ⟨gg,0,none⟩) (byN n ls).length c) ((byN n ls).map fun o=>o.n - 1) w:=RdF.ownR (r:=r) (by rw[List.flatMap_map];exact hs) (by simp)
  have h2:=RdF.take (c':=c) h (i:=M) (by rw[List.length_map];exact hM)
  unfold rKs rArr
  rw[List.map_take]
  exact h2
theorem rd_zs {n M c:Nat} {ls:List Od} {r:List Value} {w:World} {gg:Nat} (hs:Seg w gg 0 ((byN n ls).flatMap zI++r)) (hM:M≤(byN n ls).length):RdF numC (.slice (some ⟨gg,0,none⟩) M c) (rZs n M ls) w:=by
  have h:RdF numC (.slice (some ⟨gg,0,none⟩) (byN n ls).length c) ((byN n ls).map Od.z) w:=RdF.ownR (r:=r) (by rw[List.flatMap_map];exact hs) (by simp)
  have h2:=RdF.take (c':=c) h (i:=M) (by rw[List.length_map];exact hM)
  unfold rZs rArr
  rw[List.map_take]
  exact h2
theorem headD_get {ls:List Od} {x:Od} (h:ls[0]?=some x):ls.headD od0=x:=by
  cases ls with
  | nil=>cases h
  | cons a r=>simpa using h
structure RkOk (p q M:Nat) (ks zs:List Nat):Prop where
  nd:ks.Nodup
  lt:∀ k∈ks,k<7∧k+1<q
  kl:ks.length=M
  zl:zs.length=M
  zs:ZsOk p zs
theorem rkOk {p q g h:Nat} {f sec:Int} {N:List (Nat × Nat)} {ls:List Od} {M:Nat} (hB:raiseB p q g h f sec N ls=true) (hN7:N.length≤7) (hNq:N.length<q) (hM:M≤ls.length) (hls:∀ o∈ls,OdOk o):(byN N.length ls).length=ls.length∧RkOk p q M (rKs N.length M ls) (rZs N.length M ls):=by
  obtain⟨_,_,ho,hd⟩:=raiseB_spec hB
  have hb:∀ o∈ls,1≤o.n∧o.n≤N.length:=fun o h=>⟨(odB_spec (ho o h)).2.2.1,(odB_spec (ho o h)).2.2.2.1⟩
  have hp:=byN_perm hd hb
  have hl:=hp.length_eq
  have hm:∀ o∈rArr N.length M ls,o∈ls:=fun o h=>(mem_byN hb).1 (List.mem_of_mem_take h)
  have hal:(rArr N.length M ls).length=M:=by unfold rArr;rw[List.length_take];omega
  refine⟨hl,?_,fun k hk=>?_,by unfold rKs;rw[List.length_map,hal],by unfold rZs;rw[List.length_map,hal],fun z hz=>?_,fun z hz=>?_⟩
  · unfold rKs
    rw[List.Nodup,List.pairwise_map]
    have hs:(rArr N.length M ls).Pairwise (fun a b=>a.n<b.n):=(byN_sorted hd).sublist (List.take_sublist _ _)
    refine hs.imp_of_mem ?_
    intro a b ha _ hab
    have:=hb a (hm a ha)
    omega
  · unfold rKs at hk
    obtain⟨o,h1,rfl⟩:=List.mem_map.1 hk
    have:=hb o (hm o h1)
    omega
  · unfold rZs at hz
    obtain⟨o,h1,rfl⟩:=List.mem_map.1 hz
    exact (hls o (hm o h1)).z
  · unfold rZs at hz
    obtain⟨o,h1,rfl⟩:=List.mem_map.1 hz
    exact (odB_spec (ho o (hm o h1))).2.2.2.2
end Sx
end Go.Proofs.YtiiacjladnljhaaGreatDoor
