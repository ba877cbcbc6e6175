/- Part 50 of the proof. -/
import Derived.Test.YtiiefkchpicncaaGreatDoorA49
set_option linter.unusedSimpArgs false
set_option linter.unusedVariables false
set_option maxHeartbeats 8000000
namespace Go.Proofs.YtiiefkchpicncaaGreatDoor
section
open Go Go.RowKit Go.BigFrame
namespace Sx
attribute [local irreducible] DQ WC WO wd
theorem aem {E:List (Dd × Dk)}:∀ e∈ddR E,e.k.map=false:=fun e he=>by
 obtain⟨x,_,hx⟩:=List.mem_flatMap.1 he;unfold ddL at hx;simp only[List.mem_cons,List.not_mem_nil,or_false] at hx
 rcases hx with rfl|rfl|rfl<;>rfl
theorem kZ (E:List (Dd × Dk)) (x:Dd × Dk):ddR (E++[x])=ddR E++ddL x.1 x.2:=by
 unfold ddR;rw[List.flatMap_append];simp
abbrev afs (ep gB g1 P g2 gO cO:Nat) (E:List (Dd × Dk)):List Ent:=(⟨g2,41,[pU gO cO E]⟩::qo ep gO cO E)++(⟨gB,37,[pt P]⟩::⟨g1,37,[pt P]⟩::ddR E)
theorem mV {ep gB g1 P g2 gO cO:Nat} {v:Value} {E E' : List (Dd × Dk)}:∀ e∈(⟨g2,41,[v]⟩::qo ep gO cO E)++(⟨gB,37,[pt P]⟩::⟨g1,37,[pt P]⟩::ddR E' : List Ent),e.k.map=false:=fun e he=>by
 rcases List.mem_append.1 he with he|he
 ·rcases List.mem_cons.1 he with rfl|he
  ·rfl
  ·exact iK e he
 ·rcases List.mem_cons.1 he with rfl|he
  ·rfl
  ·rcases List.mem_cons.1 he with rfl|he
   ·rfl
   ·exact aem e he
theorem acj {ep:Nat} {w W:World} {g2 gO cO g m c:Nat} {F:List (Dd × Dk)} {R:List Ent} (h:Me w [] ((⟨g2,41,[pU gO cO F]⟩::qo ep gO cO F)++R) W) (hv:pU gO cO F=.slice (some ⟨g,0,none⟩) m c):g<W.heap.size:=by
 cases F with
 | nil=>cases hv
 | cons a F =>
  have:=(h.ok ⟨gO,47,_⟩ (List.mem_append_left _ (List.mem_cons_of_mem _ (List.mem_singleton.2 rfl)))).lt;cases hv;exact this
theorem aco {W:World} {g t:Nat} {u v:Value} (ht:t≠0) (h1:(⟨g,t,[u]⟩ : Ent).ok W) (h2:(⟨g,t,[v]⟩ : Ent).ok W):u=v:=ok_one ht h1 h2
theorem Lle.mid {e1 e2:Ent}:∀ (A R:List Ent),Lle (A++R) (A++(e1::e2::R))
 | [],R=>Lle.skp (Lle.skp Lle.left')
 | _::A,R=>⟨_,_,.here,rfl,Lle.mid A R⟩
def AlP (ep:Nat) (X:List Dd):Value→List Ent→Prop:=fun v N=>∃ g c E,E.map Prod.fst=X∧v=pU g E.length E∧N=qo ep g c E++ddR E
section
variable (p q g h:Nat) (f sec:Int) (ns:Value) (ep gM P:Nat) (lv:Nat→Value) (M:List (Value × Value))
theorem ac4 {α:Type} (fi:α→Nat) (fh:α→List Nat) (fd:α→Dd × Dk) (hk:Nat→List α) (pk:Nat→Option Addr) (bk ck:Nat→Nat) (BS:List Nat) (hPB:P∈BS)
  (hlv:∀ k,k<8→lv k=.slice (pk k) (hk k).length (ck k)) (hn:∀ k,(hk k).length<1000000) (hX:(uY hk 8).length<10000000) (hb8:∀ x,∀ b∈fh x,b<256) (hb32:∀ x,(fh x).length=32)
  (hpa:∀ k,k<8→hk k≠[]→pk k=some ⟨bk k,0,none⟩∧bk k∈BS) (hfi:∀ k i x,k<8→(hk k)[i]?=some x→fi x=i)
  (hM:uI Tryz.prog 53 M) (hin:∀ x,(hsV (fh x),ddV ep (fd x).1 (fd x).2)∈M) (hfit:∀ x,mR (fd x).1) :
  Fn Tryz.prog 16 [pt P] (fun w=>Seg w P 0 (plC p q g h f sec ns ep gM lv)∧(∀ k i x,k<8→(hk k)[i]?=some x→Seg w (bk k) (0+i*32) (byC (fh x)))∧(∀ k∈BS,k<w.heap.size)∧(mpE gM M).ok w∧∀ x,acG w (fd x).1 (fd x).2)
   (AlP ep ((uY hk 8).map fun x=>(fd x).1)):=by
 have hT:=sa p q g h f sec ns ep gM P lv;have hA:=gh P;have hb:∀ x,(byC (fh x)).length=32:=fun x=>by rw[ze];exact hb32 x
 intro w hw;obtain⟨w1,w2,w3,w5,w6⟩:=hw;refine vK (n:=24) 3 Tryz.func16 rfl rfl rfl ?_
 repeat (first|refine Ta ?_|(refine Tm ?_;intro _)|refine WO.acallR (hc:=hT) (hR:=fun wx hm=>w1.mod hm.mod (by simp)) (k:=?_)|refine WO.acallX (hc:=hA) (hR:=fun _ _=>trivial) (k:=fun s _=>?_)|refine Tc ?_|exact Tz)
 rename_i g1 g2 hs0;clear hs0;generalize s 0=gB;refine WC.ndp' (fun hnd=>?_);refine WC.mine (fun hmn=>?_);simp only[List.map_append,List.map_cons,List.map_nil,List.cons_append,List.nil_append] at hnd hmn;refine WC.unf (fun a w4 d1 d2 d3 d4=>?_);have lB:=(d4.ok ⟨gB,_,_⟩ (Hs.mem Hs.a)).lt;have l1:=(d4.ok ⟨g1,_,_⟩ (Hs.mem Hs.a)).lt;have l2:=(d4.ok ⟨g2,_,_⟩ (Hs.mem Hs.a)).lt;have sB:=(d4.ok ⟨gB,_,_⟩ (Hs.mem Hs.a)).seg 0;simp only[List.drop_zero] at lB l1 l2 sB;have hn0:=d4.mod.size;have B2:w.heap.size≤g2:=(hmn ⟨g2,_,_⟩ (Hs.mem Hs.a)).resolve_right (by simp);have hne:gB≠g2∧g1≠g2:=by refine⟨?_,?_⟩<;>(intro e;simp[e] at hnd)
 clear hnd hmn;have hk4:zL BS w w4:=zL.of_mod d4.mod (fun k hk=>⟨w3 k hk,by simp⟩);have hks:∀ k∈gB::BS,k<w4.heap.size∧k≠g2:=by
  intro k hk
  rcases List.mem_cons.1 hk with rfl|hk
  ·exact⟨lB,hne.1⟩
  ·have:=w3 k hk;omega
 obtain⟨I,hI0⟩ : ∃ I:List α→World→Prop,∀ pre W,I pre W↔(∃ gO cO E,E.map Prod.fst=pre.map (fun x=>(fd x).1)∧(E.length≤cO∧cO<9223372036854775808)∧Me w [] (afs ep gB g1 P g2 gO cO E) W∧w4.heap.size≤W.heap.size):=⟨_,fun _ _=>Iff.rfl⟩;refine (wpIn_wide (n:=3)).1 ?_
 refine wpIn_rangeFunc_ownH (F:=Fence.wide) rfl Om (gf:=90) (lb:=#[pt gB]) (d3.eval (x:=.tmp 9) rfl) trivial (enters_of Tryz.func90 (by kernel_rfl) rfl)
  (all_stops 2 fi fh hk pk bk ck (gB::BS) p q g h f sec ns ep gM P gB lv w4 (by simp) (by simp[hPB]) hlv hn hb sB (hk4.seg hPB w1) (fun k h1 h2=>⟨(hpa k h1 h2).1,by simp[(hpa k h1 h2).2]⟩) hfi (fun k i x h1 h2=>hk4.seg (hpa k h1 (by rintro e;rw[e] at h2;simp at h2)).2 (w2 k i x h1 h2)) (fun k hk=>(hks k hk).1))
  KpB.trans (KpB.put (fun k hk=>(hks k hk).1)) (Below.refl _ _) (fun _=>rfl)
  I (fun _ _ _=>False)
  (fun pre A B row hs hg hr=>by
   obtain⟨gO,cO,E,h0,h1,h2,h3⟩:=(hI0 _ _).1 hs;exact (hI0 _ _).2 ⟨gO,cO,E,h0,h1,h2.own hn0 hg hr (List.all_eq_true.2 fun e he=>by rw[mV e he];rfl),Nat.le_trans h3 hg.size⟩)
  (fun _ _ _ _ _ hs _ _=>hs)
  ((hI0 _ _).2 ⟨0,0,[],rfl,⟨by simp,by decide⟩,Lle.me (L':=[⟨g2,41,[.slice none 0 0]⟩,⟨gB,37,[pt P]⟩,⟨g1,37,[pt P]⟩]) (by repeat (first|exact Lle.nil|refine Lle.c ?_)) d4,Nat.le_refl _⟩)
  (fun x a' W=>a'.defers=[]∧a'.tmps.size=24∧∃ q4,Kn [(4,pt q4),(1,pt g1),(2,pt g2)] a'∧(⟨q4,53,byC (fh x)⟩ : Ent).ok W∧w4.heap.size≤q4∧∃ v,(⟨g2,41,[v]⟩ : Ent).ok W∧∀ g m c,v=.slice (some ⟨g,0,none⟩) m c→q4≠g)
  (fun x a' _ A B row ⟨e1,e2,q4,e3,e4,e5,v,e6,e7⟩ hg hr=>⟨e1,e2,q4,e3,e4.own hg hr,e5,v,e6.own hg hr,e7⟩)
  ?assign ?body ?done ?stop
 case assign =>
  intro lr pre x W K hI hK;have hbx:=hb x;have hQ:¬ LetsOut (Exit.then K (fun _ _ _=>False)):=fun ⟨_,_,h⟩=>h;have hkn:Kn ([(10,.int .i64 (fi x:Int)),(11,hsV (fh x))]++[(1,pt g1),(2,pt g2)]) { tmps:=((#[10,11]:Array Tmp).zip #[.int .i64 (fi x:Int),hsV (fh x)]).foldl (fun t (p,v)=>t.setIfInBounds p v) a.tmps,defers:=[] }:=by
   have k00:Kn [(1,pt g1),(2,pt g2)] a:=Kle.kn d3 (by repeat (first|exact Kle.nil|refine Kle.cons rfl rfl ?_));have k0:Kn [(1,pt g1),(2,pt g2)] ({ a with defers:=[] }:Act):=k00;have k1:=k0.put (d:=10) (by show 10<a.tmps.size;omega) (.int .i64 (fi x:Int));have k2:=k1.put (d:=11) (by rw[zO];show 11<a.tmps.size;omega) (hsV (fh x));have k3:Kn ([(10,.int .i64 (fi x:Int)),(11,hsV (fh x))]++[(1,pt g1),(2,pt g2)]) _:=Kle.kn k2 (by repeat (first|exact Kle.nil|refine Kle.cons rfl rfl ?_));intro t v ht;have k4:=k3 t v ht;simpa [Act.put,Array.zip] using k4
  suffices HH:WI (some lr) 1 Tryz.prog W [] 24 _ (Exit.then K (fun _ _ _=>False)) ([(10,.int .i64 (fi x:Int)),(11,hsV (fh x))]++[(1,pt g1),(2,pt g2)]) [] from HH _ W rfl (by simp[d2]) hkn (Me.refl W [])
  repeat (first|refine WO.stores (zz (vs:=byC (fh x)) (cs':=byC (fh x)) (hl:=hbx) (h1:=zT _) (hc:=zU (by rw[hbx];rfl)) (hle:=by rw[hbx];rfl)) ?_|refine WO.nil ?_|refine WO.skip ?_|refine WX.seqI ?_|refine WI.seq ?_|refine WI.region ?_ (by exact hQ)|refine WO.autoS (k:=?_)|(refine WO.autoM (k:=?_);intro _)|refine WO.auto (k:=?_)|refine WO.does yp ?_|refine WO.does vL ?_|refine WI.ret ?_|refine WI.skip ?_|refine WX.then_ret ?_|refine WX.noPanic ?_|refine WX.blk_normal ?_|refine WX.blk_ret ?_|refine WX.then_exit ?_|refine WX.blk_exit ?_|refine WX.blk_pass rfl ?_|refine WI.exit ?_|refine WI.block ?_|refine WX.scp_normal ?_|refine WX.scp_ret ?_|refine WX.scp_exit ?_|refine WI.condT rfl ?_|refine WI.condF rfl ?_)
  rename_i q4;intro a2 W2 e1 e2 e3 e4;have o4:=e4.ok ⟨q4,_,_⟩ (Hs.mem Hs.a);have m4:=(e4.mine ⟨q4,_,_⟩ (Hs.mem Hs.a)).resolve_right (by simp);obtain⟨gO,cO,E,h0,h1,h2,h3⟩:=(hI0 _ _).1 hI
  refine hK a2 W2 ⟨e4.mod.size,fun k o _ hk _=>(e4.mod.block k (Array.getElem?_eq_some_iff.1 hk).1 (by simp)).trans hk⟩ ⟨zL.of_mod e4.mod (fun k hk=>⟨Nat.lt_of_lt_of_le (hks k hk).1 h3,by simp⟩),e4.mod.size⟩ ((hI0 _ _).2 ⟨gO,cO,E,h0,h1,h2.below e4.mod.below,Nat.le_trans h3 e4.mod.size⟩)
   ⟨e1,e2,q4,Kle.kn e3 (by repeat (first|exact Kle.nil|refine Kle.cons rfl rfl ?_)),o4,Nat.le_trans h3 m4,_,(h2.below e4.mod.below).ok _ (List.mem_append_left _ (List.mem_cons_self ..)),fun g m c hv=>by
    have h5:=acj h2 hv;have h6:W.heap.size≤q4:=m4;omega⟩
 case body =>
  rintro lr pre x a' W hl _ hIa ⟨e1,e2,q4,e3,o4,hq4,v4,ov4,hv4⟩ hlen;obtain⟨gO,cO,E,hE0,⟨hc1,hc2⟩,hI,hIs⟩:=(hI0 _ _).1 hIa;have hbx:=hb x;have hkx:=uQ (fh x) (hb8 x) (hb32 x);have hEl:E.length=pre.length:=by have:=congrArg List.length hE0;simpa using this
  have hF13:=aak ep E;have s4:=o4.seg 0;have s1:=(hI.ok ⟨g1,37,[pt P]⟩ (List.mem_append_right _ (List.mem_cons_of_mem _ (List.mem_cons_self ..)))).seg 0;simp only[List.drop_zero] at s4 s1;have hQ:¬ LetsOut (ownPostG w4.heap.size (KpB (gB::BS)) I (fun _ _ _=>False) (pre++[x]) W):=fun ⟨_,_,h⟩=>h;have hkK:∀ {gs:List Nat} {W2:World},Mod gs W W2→(∀ k∈gB::BS,k ∉ gs)→KpB (gB::BS) W W2:=fun hm hg=>⟨zL.of_mod hm (fun k hk=>⟨Nat.lt_of_lt_of_le (hks k hk).1 hIs,hg k hk⟩),hm.size⟩;have hPW:Seg W P 0 (plC p q g h f sec ns ep gM lv):=w1.mod hI.mod (by simp);have hMW:(mpE gM M).ok W:=w5.keep (hI.mod.block gM w5.lt (by simp));have hMl:gM<w.heap.size:=w5.lt;have hPl:=w3 P hPB;obtain⟨lv1,lv2,lv3⟩:=(w6 x).lt (hfit x);have r1:=(w6 x).v.mod hI.mod;have r2:=(w6 x).y.mod hI.mod;have r3:=(w6 x).p.mod hI.mod;have hinx:=hin x;have hft:=hfit x;generalize hfd:fd x=dx at *;obtain⟨X,B⟩:=dx;dsimp only at lv1 lv2 lv3 r1 r2 r3 hinx hft;have hW:=fJ ep X.d X.c X.s (some ⟨B.v,0,none⟩) (some ⟨B.y,0,none⟩) (some ⟨B.p,0,none⟩) X.V.length X.Y.length X.P.length X.V X.Y X.P (List.length_pos_iff.2 hft.v) (List.length_pos_iff.2 hft.y) (List.length_pos_iff.2 hft.p) (by have:=hft.vl;omega) (by have:=hft.yl;omega) (by have:=hft.pl;omega);unfold ddV at hinx;have hfin:∀ (g1' c1:Nat) (b:Dk) (a2:Act) (W2:World),E.length+1≤c1→c1<9223372036854775808→Me W ((⟨g2,41,[pU gO cO E]⟩::qo ep gO cO E).map Ent.g) ((⟨g2,41,[pU g1' c1 (E++[(X,b)])]⟩::qo ep g1' c1 (E++[(X,b)]))++ddL X b) W2→ownPostG w4.heap.size (KpB (gB::BS)) I (fun _ _ _=>False) (pre++[x]) W .normal a2 W2:=by
   intro g1' c1 b a2 W2 t1 t2 f4;have hnd:=hI.nodup;rw[List.map_append,List.nodup_append] at hnd;refine⟨⟨f4.mod.size,fun k o hk0 hk hc=>(f4.mod.block k (Array.getElem?_eq_some_iff.1 hk).1 (fun hx=>?_)).trans hk⟩,hkK f4.mod (fun k hk hx=>?_),(hI0 _ _).2 ⟨g1',c1,E++[(X,b)],?_⟩⟩
   ·obtain⟨e,he,rfl⟩:=List.mem_map.1 hx;exact (hI.ok e (List.mem_append_left _ he)).far (mV (gB:=gB) (g1:=g1) (P:=P) (E':=E) e (List.mem_append_left _ he)) hk hc
   ·rcases List.mem_cons.1 hk with rfl|hk
    ·exact hnd.2.2 _ hx _ (by simp) rfl
    ·have:=w3 k hk;obtain⟨e,he,rfl⟩:=List.mem_map.1 hx;have:=(hI.mine e (List.mem_append_left _ he)).resolve_right (by simp);omega
   ·refine⟨by rw[List.map_append,List.map_append,hE0];simp[hfd],⟨by rw[List.length_append];exact t1,t2⟩,?_,Nat.le_trans hIs f4.mod.size⟩;have h9:=Me.callL hI f4;rw[List.append_assoc] at h9;refine h9.perm ?_;show List.Perm _ ((⟨g2,41,[pU g1' c1 (E++[(X,b)])]⟩::qo ep g1' c1 (E++[(X,b)]))++(⟨gB,37,[pt P]⟩::⟨g1,37,[pt P]⟩::ddR (E++[(X,b)])));rw[kZ];exact List.Perm.append_left _ List.perm_append_comm
  rcases Nat.eq_zero_or_pos E.length with hF0|hpos
  ·obtain rfl:=List.length_eq_zero_iff.1 hF0;have i2:=hI.ok ⟨g2,41,[.slice none 0 0]⟩ (List.mem_append_left _ (List.mem_cons_self ..));have b4:q4 ∉ [g2]:=by simp;omega
   have b1:g1 ∉ [g2]:=by simpa using hne.2
   have bP:P ∉ [g2]:=by simp;omega
   have bM:gM ∉ [g2]:=by simp;omega
   have bV:∀ a:Addr,some (⟨B.v,0,none⟩ : Addr)=some a→a.block ∉ [g2]:=fun a e=>by cases e;simp;omega
   have bY:∀ a:Addr,some (⟨B.y,0,none⟩ : Addr)=some a→a.block ∉ [g2]:=fun a e=>by cases e;simp;omega
   have bR:∀ a:Addr,some (⟨B.p,0,none⟩ : Addr)=some a→a.block ∉ [g2]:=fun a e=>by cases e;simp;omega
   have hm0:Me W [g2] [⟨g2,41,[.slice none 0 0]⟩] W:=⟨.refl _ _,by simpa using i2,by simp,by simp⟩
   suffices HH:WI (some lr) 1 Tryz.prog W [g2] 24 _ (ownPostG w4.heap.size (KpB (gB::BS)) I (fun _ _ _=>False) (pre++[x]) W) [(4,pt q4),(1,pt g1),(2,pt g2)] [⟨g2,41,[.slice none 0 0]⟩] from HH a' W e1 e2 e3 hm0
   refine WI.block ?_;refine WI.headQ 9 (by exact hQ) ?_;refine Dc ?_;refine DQ.does (fun s _=>yE s1 (i:=0) rfl b1 rfl) Dp.const ?_;refine Dc ?_;refine Dc ?_;refine DQ.does (fun s _=>zl (hs:=hPW) (hb:=bP) (hc:=rfl)) Dp.const ?_;refine DQ.does (fun s _=>zm (vs:=byC (fh x)) (hs:=s4) (hb:=b4) (hle:=Nat.le_refl _) (hc:=by rw[Nat.sub_self];exact zA hbx) (hl:=hbx)) Dp.const ?_;refine DQ.does (fun s _=>qQ yS rfl rfl (r7 hMW bM) hM hkx hinx) Dp.const ?_;refine DQ.acallX (hc:=hW) (hR:=fun wx hm=>⟨r1.modH hm.mod bV,r2.modH hm.mod bY,r3.modH hm.mod bR⟩) (k:=?_);refine DQ.makes (vf:=fun _ g=>.slice (some ⟨g,0,none⟩) 1 1) (t:=47) (cs:=fun s=>ddC ep (X,⟨s 7 0,s 7 1,s 7 2,s 7 3,s 7 4,s 7 5⟩)) (fun s _=>zh rfl (by decide) rfl) Dp.const (by intro s s' h;dsimp only;rw[h 7 (by decide +kernel)]) ?_;refine DQ.anil (k:=?_);intro sx _
   try simp only[List.map_cons,List.map_nil,List.cons_append,List.nil_append]
   generalize sx 7 0=hV;generalize sx 7 1=hY;generalize sx 7 2=hP;generalize sx 7 3=kV;generalize sx 7 4=kY;generalize sx 7 5=kP;generalize sx 8 0=gT;refine WO.nil (WX.headR ?_ (by exact hQ));refine VR.step (S:=[true,true,true,true,true,true,true,true,true,false,false]) (f:=1) [9] ?_;refine uv.cons (fun hQ1 hd1=>?_) uv.nil;refine WO.appNZ (z:=dzC) (ys:=ddC ep (X,⟨hV,hY,hP,kV,kY,kP⟩)) (m:=1) rfl rfl rfl (Rds.own (m:=13) Hs.a rfl) rfl (by decide) (by decide) (by decide) (by decide) (fun g1' c1 a2 a3=>?_);refine WO.nil (WX.vr (S':=[true,true,true,true,true,true,true,true,true,true,false]) ?_ hQ1 hd1);refine VR.step (S:=[true,true,true,true,true,true,true,true,true,true,false]) (f:=0) [10] ?_;refine uv.cons (fun hQ1 hd1=>?_) uv.nil;refine Ta ?_;refine WO.nil (WX.vr (S':=List.replicate 11 true) ?_ hQ1 hd1);refine VR.done ?_;refine WX.blk_normal ?_;intro a2' W2 f1 f2 f3 f4;exact hfin g1' c1 ⟨hV,hY,hP,kV,kY,kP⟩ a2' W2 a3 a2 (Lle.me (by simp only[List.nil_append,List.length_singleton,pU,qo,agV,rwL,List.flatMap_cons,List.flatMap_nil,List.append_nil,List.cons_append,ddL];(repeat (first|exact Lle.nil|refine Lle.c ?_))) f4)
  ·have i2:=hI.ok ⟨g2,41,[pU gO cO E]⟩ (List.mem_append_left _ (List.mem_cons_self ..));have hsl:pU gO cO E=.slice (some ⟨gO,0,none⟩) E.length cO:=yd hpos;have hrl:qo ep gO cO E=[⟨gO,47,E.flatMap (ddC ep)++mkz (cO - E.length) dzC⟩]:=ye hpos;have hvv:=aco (by decide) ov4 i2;have b4:q4 ∉ [g2,gO]:=by
    have:=hv4 gO E.length cO (hvv.trans hsl);simp;omega
   rw[hsl] at i2;have iO:=hI.ok ⟨gO,47,E.flatMap (ddC ep)++mkz (cO - E.length) dzC⟩ (List.mem_append_left _ (List.mem_cons_of_mem _ (by rw[hrl];exact List.mem_singleton.2 rfl)));have mO:=(hI.mine ⟨gO,47,E.flatMap (ddC ep)++mkz (cO - E.length) dzC⟩ (List.mem_append_left _ (List.mem_cons_of_mem _ (by rw[hrl];exact List.mem_singleton.2 rfl)))).resolve_right (by simp);have mO' : w.heap.size≤gO:=mO;have hg2O:g2≠gO∧gO≠g1:=by
    have hnd:=hI.nodup;unfold afs at hnd;rw[hrl] at hnd;refine⟨?_,?_⟩<;>(intro e;simp[e] at hnd)
   have b1:g1 ∉ [g2,gO]:=by simp;exact⟨hne.2,fun e=>hg2O.2 e.symm⟩
   have bP:P ∉ [g2,gO]:=by simp;omega
   have bM:gM ∉ [g2,gO]:=by simp;omega
   have bV:∀ a:Addr,some (⟨B.v,0,none⟩ : Addr)=some a→a.block ∉ [g2,gO]:=fun a e=>by cases e;simp;omega
   have bY:∀ a:Addr,some (⟨B.y,0,none⟩ : Addr)=some a→a.block ∉ [g2,gO]:=fun a e=>by cases e;simp;omega
   have bR:∀ a:Addr,some (⟨B.p,0,none⟩ : Addr)=some a→a.block ∉ [g2,gO]:=fun a e=>by cases e;simp;omega
   have hm0:Me W [g2,gO] [⟨g2,41,[.slice (some ⟨gO,0,none⟩) E.length cO]⟩,⟨gO,47,E.flatMap (ddC ep)++mkz (cO - E.length) dzC⟩] W:=⟨.refl _ _,fun e he=>(List.mem_cons.1 he).elim (fun h=>h ▸ i2) (fun he=>(List.mem_singleton.1 he) ▸ iO),by simp,by simpa using hg2O.1⟩;have hfin' : ∀ (g1' c1:Nat) (b:Dk) (a2:Act) (W2:World),E.length+1≤c1→c1<9223372036854775808→Me W [g2,gO] ([⟨g2,41,[.slice (some ⟨g1',0,none⟩) (E.length+1) c1]⟩,⟨g1',47,(E.flatMap (ddC ep)++ddC ep (X,b))++mkz (c1 - (E.length+1)) dzC⟩]++ddL X b) W2→ownPostG w4.heap.size (KpB (gB::BS)) I (fun _ _ _=>False) (pre++[x]) W .normal a2 W2:=by
    intro g1' c1 b a2 W2 t1 t2 f4;have hfl:(E++[(X,b)]).length=E.length+1:=by simp
    refine hfin g1' c1 b a2 W2 t1 t2 ?_;show Me W (g2::(qo ep gO cO E).map Ent.g) ((⟨g2,41,[agV g1' c1 (E++[(X,b)]).length (E++[(X,b)]).length]⟩::rwL 47 g1' ((E++[(X,b)]).flatMap (ddC ep)) (mkz (c1 - (E++[(X,b)]).length) dzC) (E++[(X,b)]).length)++ddL X b) W2;rw[yd Om,ye Om,hfl,List.flatMap_append,hrl];simpa using f4
   suffices HH:WI (some lr) 1 Tryz.prog W [g2,gO] 24 _ (ownPostG w4.heap.size (KpB (gB::BS)) I (fun _ _ _=>False) (pre++[x]) W) [(4,pt q4),(1,pt g1),(2,pt g2)] [⟨g2,41,[.slice (some ⟨gO,0,none⟩) E.length cO]⟩,⟨gO,47,E.flatMap (ddC ep)++mkz (cO - E.length) dzC⟩] from HH a' W e1 e2 e3 hm0
   refine WI.block ?_;refine WI.headQ 9 (by exact hQ) ?_;refine Dc ?_;refine DQ.does (fun s _=>yE s1 (i:=0) rfl b1 rfl) Dp.const ?_;refine Dc ?_;refine Dc ?_;refine DQ.does (fun s _=>zl (hs:=hPW) (hb:=bP) (hc:=rfl)) Dp.const ?_;refine DQ.does (fun s _=>zm (vs:=byC (fh x)) (hs:=s4) (hb:=b4) (hle:=Nat.le_refl _) (hc:=by rw[Nat.sub_self];exact zA hbx) (hl:=hbx)) Dp.const ?_;refine DQ.does (fun s _=>qQ yS rfl rfl (r7 hMW bM) hM hkx hinx) Dp.const ?_;refine DQ.acallX (hc:=hW) (hR:=fun wx hm=>⟨r1.modH hm.mod bV,r2.modH hm.mod bY,r3.modH hm.mod bR⟩) (k:=?_);refine DQ.makes (vf:=fun _ g=>.slice (some ⟨g,0,none⟩) 1 1) (t:=47) (cs:=fun s=>ddC ep (X,⟨s 7 0,s 7 1,s 7 2,s 7 3,s 7 4,s 7 5⟩)) (fun s _=>zh rfl (by decide) rfl) Dp.const (by intro s s' h;dsimp only;rw[h 7 (by decide +kernel)]) ?_;refine DQ.anil (k:=?_);intro sx _
   try simp only[List.map_cons,List.map_nil,List.cons_append,List.nil_append]
   generalize sx 7 0=hV;generalize sx 7 1=hY;generalize sx 7 2=hP;generalize sx 7 3=kV;generalize sx 7 4=kY;generalize sx 7 5=kP;generalize sx 8 0=gT;refine WO.nil (WX.headR ?_ (by exact hQ));refine VR.step (S:=[true,true,true,true,true,true,true,true,true,false,false]) (f:=1) [9] ?_;refine uv.cons (fun hQ1 hd1=>?_) uv.nil;refine WO.appKZ (z:=dzC) (m:=1) (l:=E.length+1) rfl rfl rfl (xs:=E.flatMap (ddC ep)) (ys:=ddC ep (X,⟨hV,hY,hP,kV,kY,kP⟩)) hF13 hc1 Pk.a (Rds.own (m:=13) Hs.a rfl) rfl rfl rfl Om hc2 Om (by decide) (by decide) (fun g1' c1 a2 a3=>?_);refine WO.nil (WX.vr (S':=[true,true,true,true,true,true,true,true,true,true,false]) ?_ hQ1 hd1);refine VR.step (S:=[true,true,true,true,true,true,true,true,true,true,false]) (f:=0) [10] ?_;refine uv.cons (fun hQ1 hd1=>?_) uv.nil;refine Ta ?_;refine WO.nil (WX.vr (S':=List.replicate 11 true) ?_ hQ1 hd1);refine VR.done ?_;refine WX.blk_normal ?_;intro a2' W2 f1 f2 f3 f4;exact hfin' g1' c1 ⟨hV,hY,hP,kV,kY,kP⟩ a2' W2 a3 a2 (Lle.me (by simp only[List.cons_append,List.nil_append,ddL];(repeat (first|exact Lle.nil|refine Lle.c ?_))) f4)
 case done =>
  rintro D ys W hD rfl hIa hK;obtain⟨gO,cO,E,hE0,⟨hc1,hc2⟩,hI,hIs⟩:=(hI0 _ _).1 hIa;have hlD:D<W.heap.size:=(Array.getElem?_eq_some_iff.1 hK).1;have i2:=hI.ok ⟨g2,41,[pU gO cO E]⟩ (List.mem_append_left _ (List.mem_cons_self ..));have hm0:Me W [g2] [⟨g2,41,[pU gO cO E]⟩] W:=⟨.refl _ _,by simpa using i2,by simp,by simp⟩;have hD2:D≠g2:=fun e=>by
   rw[e] at hK;exact i2.far rfl hK rfl
  obtain⟨pO,c',r1,r2,r3⟩:=iZ (g:=gO) hc1;have hI' : Me w [] ([⟨g2,41,[pU gO cO E]⟩]++(qo ep gO cO E++(⟨gB,37,[pt P]⟩::⟨g1,37,[pt P]⟩::ddR E))) W:=hI;rw[r1] at hm0 hI';have hfin:∀ {v:Value} {W3:World},Me W [g2] [⟨g2,41,[v]⟩] W3→Me w [] (⟨g2,41,[v]⟩::(qo ep gO cO E++(⟨gB,37,[pt P]⟩::⟨g1,37,[pt P]⟩::ddR E))) W3∧W3.heap[D]?=some (.deferred (some [])):=fun f4=>⟨Me.callL (M:=[⟨g2,41,[.slice pO E.length c']⟩]) hI' f4,(f4.mod.block D hlD (by simpa using hD2)).trans hK⟩;have hDw:w.heap.size≤D:=Nat.le_trans hn0 hD;have hC:=abj (c:=c') pO E.length r2;refine WO.tail (w0:=W) (gs:=[g2]) (n:=24) (K:=[(2,pt g2)]) (L:=[⟨g2,41,[.slice pO E.length c']⟩]) (ds:=[{ target:=.collected D,args:=#[] }]) (by rw[d1]) d2 (Kle.kn d3 (by repeat (first|exact Kle.nil|refine Kle.cons rfl rfl ?_))) hm0 ?_;refine WO.auto (k:=?_);refine WO.acallR (hc:=hC) (hR:=fun wx hm=>trivial) (k:=?_);refine Ta ?_;refine WO.nil ?_;intro a3 W3 t1 t2 t3 t4;rw[r3] at t4;obtain⟨m1,m2⟩:=hfin t4;refine wp_ret ?_;refine tQ (D:=D) (w:=w) (a:=a3) (N:=qo ep gO cO E++ddR E) (by simp[dfA,t1]) t3 m1 hDw m2 (fun e he=>mV (ep:=ep) (gB:=gB) (g1:=g1) (P:=P) (gO:=gO) (cO:=cO) (E:=E) (E':=E) e he) (aeZ rfl (uc rfl Hs.here rfl)) (Lle.skp (Lle.mid _ _)) ⟨gO,cO,E,hE0,rfl,rfl⟩
 case stop =>
  rintro D c pre W _ _ h _;exact h.elim
end
end Sx
end
section
open Go Go.RowKit Go.BigFrame
namespace Sx
attribute [local irreducible] DQ WC WO WX wd
theorem ao (e d:Nat) (v y pr:Value) (sC sS:Nat) (h1:v.oneCell'=true) (h2:y.oneCell'=true) (h3:pr.oneCell'=true):Fn Tryz.prog 12 [.pointer none,dlV e d v y pr sC sS] Tr (Is (.tuple #[.bool false,.int .i64 2])):=by
 have hT:=sP;refine Fn.enter Tryz.func12 rfl rfl rfl ?_;intro w hw
 repeat (first|refine Ta ?_|(refine Tm ?_;intro _)|refine WO.acallR (hc:=hT) (hR:=fun w1 hm=>trivial) (k:=?_)|refine Tc ?_|exact Tz)
 done
theorem jV:Fn Tryz.prog 14 [.pointer none] Tr (Is (.tuple #[.slice none 0 0,.bool false])):=by
 have hT:=sP;refine Fn.enter Tryz.func14 rfl rfl rfl ?_;intro w hw
 repeat (first|refine Ta ?_|(refine Tm ?_;intro _)|refine WO.acallR (hc:=hT) (hR:=fun w1 hm=>trivial) (k:=?_)|refine Tc ?_|exact Tz)
 done
theorem ab:Fn Tryz.prog 15 [.pointer none,.slice none 0 0] Tr (Is (.bool false)):=by
 have hT:=sP;refine Fn.enter Tryz.func15 rfl rfl rfl ?_;intro w hw
 repeat (first|refine Ta ?_|(refine Tm ?_;intro _)|refine WO.acallR (hc:=hT) (hR:=fun w1 hm=>trivial) (k:=?_)|refine Tc ?_|exact Tz)
 done
theorem cS:Fn Tryz.prog 16 [.pointer none] Tr (Is (.slice none 0 0)):=by
 have hT:=sP;refine Fn.enter Tryz.func16 rfl rfl rfl ?_;intro w hw
 repeat (first|refine Ta ?_|(refine Tm ?_;intro _)|refine WO.acallR (hc:=hT) (hR:=fun w1 hm=>trivial) (k:=?_)|refine Tc ?_|exact Tz)
 done
theorem ad9 {p q g h:Nat} {f sec:Int} {N:List (Nat × Nat)} {ep:Nat} {b:Bool} (hb:b=false) {v:Value} {M:List Ent} (h:NwP p q g h f sec N ep b v M):Is (.tuple #[.pointer none,.int .i64 1]) v M:=h.2 hb
theorem aG:Fn Tryz.prog 9 [stV 0 0 0 0 0 0 (.slice none 0 0),.int .u64 1] Tr (Is (.tuple #[.pointer none,.int .i64 1])) :=
 (fo 0 0 0 0 0 0 none 0 [] 1 (by decide) (by decide) (by decide) (by decide) (fun k hk=>by simp at hk) (by simp) (by decide) (by decide) (by decide) (by decide) (by decide)).weak (fun w _=>⟨none,0,rfl,.inl ⟨rfl,rfl⟩⟩) (fun v N hv=>ad9 (by decide +kernel) hv)
theorem abH:Fn Tryz.prog 8 [] Tr (Is (.bool true)):=by
 have h1:=aG;have h2:=ao 0 0 (.slice none 0 0) (.slice none 0 0) (.slice none 0 0) 0 0 rfl rfl rfl;have h3:=jV;have h4:=ab;have h5:=cS;refine Fn.enter Tryz.func8 rfl rfl rfl ?_;intro w hw
 repeat (first|refine Ta ?_|(refine Tm ?_;intro _)|refine WO.acall (hc:=h1) (k:=?_)|refine WO.acall (hc:=h2) (k:=?_)|refine WO.acall (hc:=h3) (k:=?_)|refine WO.acall (hc:=h4) (k:=?_)|refine WO.acall (hc:=h5) (k:=?_)|refine Tc ?_|exact Tz)
 done
structure Pl where
 P:Nat
 gM:Nat
 gN:Nat
 cN:Nat
 p:Nat
 q:Nat
 g:Nat
 h:Nat
 ep:Nat
 f:Int
 sec:Int
 N:List (Nat × Nat)
def Pl.ns (k:Pl):Value:=.slice (some ⟨k.gN,0,none⟩) k.N.length k.cN
def y9 (k:Pl) (lg lc:Nat→Nat) (D:List (Dd × Dk)):List Ent :=
 ⟨k.P,102,plC k.p k.q k.g k.h k.f k.sec k.ns k.ep k.gM (lsV lg lc (ddK k.ep D))⟩::mpE k.gM (ddM k.ep D)::⟨k.gN,96,k.N.flatMap yf++mkz (k.cN - k.N.length) (y7 0 0)⟩::(lsL lg lc (ddK k.ep D)++ddR D)
structure PlI (k:Pl) (lc:Nat→Nat) (D:List (Dd × Dk)):Prop where
 fit:∀ x∈D,mR x.1
 d1:∀ x∈D,0<x.1.d∧x.1.d≤k.N.length
 dist:(D.map fun x=>ddH k.ep x.1).Nodup
 room:∀ j,0<(ddK k.ep D j).length→(ddK k.ep D j).length≤lc j∧lc j<9223372036854775808
 n7:k.N.length≤7
 small:D.length≤1000
theorem oU {α β:Type} {f:α→β} (hf:∀ a b,f a=f b→a=b):∀ {l:List α},l.Nodup→(l.map f).Nodup
 | [],_=>by simp
 | a::l,h=>by
  rw[List.nodup_cons] at h;rw[List.map_cons,List.nodup_cons];refine⟨fun hm=>?_,oU hf h.2⟩;obtain⟨b,hb,e⟩:=List.mem_map.1 hm;rw[← hf _ _ e] at h;exact h.1 hb
theorem tE {ep:Nat} {D:List (Dd × Dk)} (h:(D.map fun x=>ddH ep x.1).Nodup):uI Tryz.prog 53 (ddM ep D):=by
 refine⟨fun x hx=>?_,?_⟩
 ·obtain⟨y,_,rfl⟩:=List.mem_map.1 hx;exact uQ _ (ut ep y.1) (yP ep y.1)
 ·have e:(ddM ep D).map Prod.fst=(D.map fun x=>ddH ep x.1).map hsV:=by unfold ddM;rw[List.map_map,List.map_map];rfl
  rw[e];exact oU (fun a b hab=>ou hab) h
abbrev PxT (D:List (Dd × Dk)):Type:={ x:Nat × (Dd × Dk) // x.2∈D }
def uZ {D:List (Dd × Dk)}:Nat→(l:List (Dd × Dk))→(∀ x∈l,x∈D)→List (PxT D)
 | _,[],_=>[]
 | i,x::l,h=>⟨(i,x),h x (by simp)⟩::uZ (i+1) l (fun y hy=>h y (by simp[hy]))
theorem ma {D:List (Dd × Dk)}:∀ (i:Nat) (l:List (Dd × Dk)) (h:∀ x∈l,x∈D),(uZ i l h).length=l.length
 | _,[],_=>rfl
 | i,x::l,h=>by rw[uZ,List.length_cons,ma,List.length_cons]
theorem nU {D:List (Dd × Dk)}:∀ (i:Nat) (l:List (Dd × Dk)) (h:∀ x∈l,x∈D) (j:Nat) (y:PxT D),(uZ i l h)[j]?=some y→y.1.1=i+j∧l[j]?=some y.1.2
 | _,[],_,j,y,e=>by simp[uZ] at e
 | i,x::l,h,0,y,e=>by
  rw[uZ,List.getElem?_cons_zero] at e;cases e;exact⟨rfl,rfl⟩
 | i,x::l,h,j+1,y,e=>by
  rw[uZ,List.getElem?_cons_succ] at e;obtain⟨h1,h2⟩:=nU (i+1) l _ j y e;exact⟨by omega,by simpa using h2⟩
theorem nB {D:List (Dd × Dk)} {β:Type} (F:Dd × Dk→β):∀ (i:Nat) (l:List (Dd × Dk)) (h:∀ x∈l,x∈D),(uZ i l h).map (fun y=>F y.1.2)=l.map F
 | _,[],_=>rfl
 | i,x::l,h=>by rw[uZ,List.map_cons,List.map_cons,nB F (i+1)]
theorem kb {D:List (Dd × Dk)} (H:PxT D→List Nat):∀ (i:Nat) (l:List (Dd × Dk)) (h:∀ x∈l,x∈D),0<i→zM (fun y:PxT D=>y.1.1) H (uZ i l h)=[]
 | _,[],_,_=>rfl
 | i,x::l,h,hi=>by
  have:=kb H (i+1) l (fun y hy=>h y (by simp[hy])) Om;unfold zM at *;rw[uZ,List.filter_cons_of_neg (by simp;omega)];exact this
theorem nX {D:List (Dd × Dk)} (ep:Nat) (l:List (Dd × Dk)) (h:∀ x∈l,x∈D):zM (fun y:PxT D=>y.1.1) (fun y=>ddH ep y.1.2.1) (uZ 0 l h)=(l.map fun x=>ddH ep x.1).take 1:=by
 cases l with
 | nil=>rfl
 | cons x l =>
  have:=kb (fun y:PxT D=>ddH ep y.1.2.1) 1 l (fun y hy=>h y (by simp[hy])) Om;unfold zM at *;rw[uZ,List.filter_cons_of_pos (by simp),List.map_cons];show _::List.map _ (List.filter _ (uZ (0+1) l _))=_;rw[show (0:Nat)+1=1 from rfl,this];simp
def rL (D:List (Dd × Dk)) (k:Nat):List (PxT D):=uZ 0 (D.filter fun x=>x.1.d == k) (fun x hx=>(List.mem_filter.1 hx).1)
theorem ri {D:List (Dd × Dk)} {ep k:Nat}:(rL D k).length=(ddK ep D k).length:=by unfold rL ddK;rw[ma,List.length_map]
def sF (ep:Nat) (D:List (Dd × Dk)):List (List Nat):=(List.range 8).flatMap fun k=>(ddK ep D k).take 1
theorem re {α:Type} (fi:α→Nat) (fh:α→List Nat) (hk:Nat→List α):∀ l:List Nat,zM fi fh (l.flatMap hk)=l.flatMap fun k=>zM fi fh (hk k)
 | []=>rfl
 | a::l=>by
  have:=re fi fh hk l;unfold zM at *;rw[List.flatMap_cons,List.filter_append,List.map_append,this,List.flatMap_cons]
theorem bF (ep:Nat) (D:List (Dd × Dk)):zM (fun y:PxT D=>y.1.1) (fun y=>ddH ep y.1.2.1) (uY (rL D) 8)=sF ep D:=by
 unfold uY sF;rw[re];congr 1;funext k;exact nX ep _ _
def abV (D:List (Dd × Dk)):List Dd:=(List.range 8).flatMap fun k=>(D.filter fun x=>x.1.d == k).map Prod.fst
theorem aex (D:List (Dd × Dk)):(uY (rL D) 8).map (fun y=>y.1.2.1)=abV D:=by
 unfold uY abV;rw[List.map_flatMap];congr 1;funext k;exact nB Prod.fst _ _ _
theorem oE {α:Type} (key:α→Nat):∀ (D:List α),(∀ x∈D,key x<8)→((List.range 8).flatMap fun k=>D.filter fun x=>key x == k).length=D.length
 | [],_=>by simp[List.range_succ_eq_map]
 | x::D,h=>by
  have ih:=oE key D (fun y hy=>h y (by simp[hy]));have hx:=h x (by simp);have e:∀ k,(List.filter (fun x=>key x == k) (x::D)).length=(List.filter (fun x=>key x == k) D).length+(if key x=k then 1 else 0):=fun k=>by
   by_cases hk:key x=k
   ·rw[List.filter_cons_of_pos (by simpa using hk),if_pos hk];simp
   ·rw[List.filter_cons_of_neg (by simpa using hk),if_neg hk];simp
  rw[List.length_flatMap] at ih ⊢;simp only[List.range_succ_eq_map,List.range_zero,List.map_cons,List.map_nil,List.sum_cons,List.sum_nil,e] at ih ⊢;rw[List.length_cons];have:key x=0∨key x=1∨key x=2∨key x=3∨key x=4∨key x=5∨key x=6∨key x=7:=by omega
  rcases this with h|h|h|h|h|h|h|h<;>simp[h] at ih ⊢<;>omega
def PlR (k:Pl) (lg lc:Nat→Nat) (D:List (Dd × Dk)) (w:World):Prop:=∀ e∈y9 k lg lc D,e.ok w
section
variable {k:Pl} {lg lc:Nat→Nat} {D:List (Dd × Dk)} {w:World}
theorem PlR.P (h:PlR k lg lc D w):Seg w k.P 0 (plC k.p k.q k.g k.h k.f k.sec k.ns k.ep k.gM (lsV lg lc (ddK k.ep D))):=by
 have:=(h ⟨k.P,102,plC k.p k.q k.g k.h k.f k.sec k.ns k.ep k.gM (lsV lg lc (ddK k.ep D))⟩ (List.mem_cons_self ..)).seg 0;simpa using this
theorem PlR.M (h:PlR k lg lc D w):(mpE k.gM (ddM k.ep D)).ok w:=h _ (List.mem_cons_of_mem _ (List.mem_cons_self ..))
theorem PlR.N (h:PlR k lg lc D w):RdF yf k.ns k.N w:=by
 have:=(h ⟨k.gN,96,k.N.flatMap yf++mkz (k.cN - k.N.length) (y7 0 0)⟩ (List.mem_cons_of_mem _ (List.mem_cons_of_mem _ (List.mem_cons_self ..)))).seg 0;rw[List.drop_zero] at this;exact RdF.ownO this rfl
theorem fb {j:Nat} (hj:j<8) (hp:0<(ddK k.ep D j).length):(⟨lg j,53,(ddK k.ep D j).flatMap byC++mkz (lc j - (ddK k.ep D j).length) (byC (List.replicate 32 0))⟩ : Ent)∈y9 k lg lc D:=by
 refine List.mem_cons_of_mem _ (List.mem_cons_of_mem _ (List.mem_cons_of_mem _ (List.mem_append_left _ ?_)));refine List.mem_flatMap.2 ⟨j,List.mem_range.2 hj,?_⟩;unfold lsE;rw[ye hp];exact List.mem_singleton.2 rfl
theorem PlR.row (h:PlR k lg lc D w) {j i:Nat} {H:List Nat} (hj:j<8) (hi:(ddK k.ep D j)[i]?=some H):Seg w (lg j) (0+i*32) (byC H):=by
 have hp:0<(ddK k.ep D j).length:=by have:=(List.getElem?_eq_some_iff.1 hi).1;omega
 have:=(h _ (fb hj hp)).seg 0;rw[List.drop_zero] at this;refine this.sub (vT (k:=32) (fun x hx=>?_) hi);unfold ddK at hx;obtain⟨y,_,rfl⟩:=List.mem_map.1 hx;rw[ze];exact yP _ _
theorem PlR.lt (h:PlR k lg lc D w) {j:Nat} (hj:j<8) (hp:0<(ddK k.ep D j).length):lg j<w.heap.size:=(h _ (fb hj hp)).lt
theorem abJ {x:Dd × Dk} (hx:x∈D) {e:Ent} (he:e∈ddL x.1 x.2):e∈y9 k lg lc D :=
 List.mem_cons_of_mem _ (List.mem_cons_of_mem _ (List.mem_cons_of_mem _ (List.mem_append_right _ (List.mem_flatMap.2 ⟨x,hx,he⟩))))
theorem PlR.dd (h:PlR k lg lc D w) {x:Dd × Dk} (hx:x∈D):acG w x.1 x.2:=acG.of fun e he=>h e (abJ hx he)
end
section
variable (k:Pl) (lg lc:Nat→Nat) (D:List (Dd × Dk))
def pkD (j:Nat):Option Addr:=if (ddK k.ep D j).length=0 then none else some ⟨lg j,0,none⟩
def ckD (j:Nat):Nat:=if (ddK k.ep D j).length=0 then 0 else lc j
def bsD:List Nat:=k.P::((List.range 8).filter fun j=>decide (0<(ddK k.ep D j).length)).map lg
theorem adn (j:Nat):lsV lg lc (ddK k.ep D) j=.slice (pkD k lg D j) (rL D j).length (ckD k lc D j):=by
 rw[ri (ep:=k.ep)];unfold lsV pkD ckD
 rcases Nat.eq_zero_or_pos (ddK k.ep D j).length with h|h
 ·rw[h];rfl
 ·rw[yd h,if_neg Om,if_neg Om]
theorem afn (j:Nat) (hj:j<8) (hne:rL D j≠[]):pkD k lg D j=some ⟨lg j,0,none⟩∧lg j∈bsD k lg D:=by
 have hp:0<(ddK k.ep D j).length:=by rw[← ri];exact List.length_pos_iff.2 hne
 unfold pkD bsD;rw[if_neg Om];exact⟨rfl,List.mem_cons_of_mem _ (List.mem_map.2 ⟨j,List.mem_filter.2 ⟨List.mem_range.2 hj,by simpa using hp⟩,rfl⟩)⟩
theorem adm {w:World} (h:PlR k lg lc D w):∀ b∈bsD k lg D,b<w.heap.size:=by
 intro b hb;unfold bsD at hb
 rcases List.mem_cons.1 hb with rfl|hb
 ·exact (h ⟨k.P,102,_⟩ (List.mem_cons_self ..)).lt
 ·obtain⟨j,hj,rfl⟩:=List.mem_map.1 hb;obtain⟨h1,h2⟩:=List.mem_filter.1 hj;exact h.lt (List.mem_range.1 h1) (by simpa using h2)
theorem tw {j i:Nat} {y:PxT D} (h:(rL D j)[i]?=some y):y.1.1=i∧(ddK k.ep D j)[i]?=some (ddH k.ep y.1.2.1):=by
 obtain⟨h1,h2⟩:=nU 0 _ _ i y h;refine⟨by omega,?_⟩;unfold ddK;rw[List.getElem?_map,h2];rfl
theorem rH (hI:PlI k lc D) (j:Nat):(rL D j).length<1000000:=by
 rw[ri (ep:=k.ep)];unfold ddK;rw[List.length_map];have:=List.length_filter_le (fun x:Dd × Dk=>x.1.d == j) D;have:=hI.small;omega
theorem qY (hI:PlI k lc D):(uY (rL D) 8).length<10000000:=by
 have h1:=congrArg List.length (aex D);rw[List.length_map] at h1;rw[h1];have h2:=oE (fun x:Dd × Dk=>x.1.d) D (fun x hx=>by have:=(hI.d1 x hx).2;have:=hI.n7;omega);have:(abV D).length=D.length:=by
  rw[← h2];unfold abV;rw[List.length_flatMap,List.length_flatMap];simp
 have:=hI.small;omega
theorem dX (hI:PlI k lc D):(abV D).length=D.length:=by
 have h2:=oE (fun x:Dd × Dk=>x.1.d) D (fun x hx=>by have:=(hI.d1 x hx).2;have:=hI.n7;omega);rw[← h2];unfold abV;rw[List.length_flatMap,List.length_flatMap];simp
theorem dt (hI:PlI k lc D) (hf1 : -9223372036854775808≤(k.N.length:Int) - k.f) (hf2:(k.N.length:Int) - k.f≤9223372036854775807) :
  Fn Tryz.prog 14 [pt k.P] (PlR k lg lc D) (FsP (decide ((k.N.length:Int) - k.f≤((sF k.ep D).length:Int))) (sF k.ep D)):=by
 have h:=eW k.p k.q k.g k.h k.f k.sec (some ⟨k.gN,0,none⟩) k.cN k.N.length k.ep k.gM k.P (lsV lg lc (ddK k.ep D)) (α:=PxT D) (fun y=>y.1.1) (fun y=>ddH k.ep y.1.2.1) (rL D) (pkD k lg D) lg (ckD k lc D) (bsD k lg D) (List.mem_cons_self ..)
  (fun j _=>adn k lg lc D j) (rH k lc D hI) (qY k lc D hI) (fun x=>by rw[ze];exact yP _ _) (afn k lg D) (fun j i x _ hx=>(tw k D hx).1) hf1 hf2
 rw[bF] at h;exact h.weak (fun w hw=>⟨hw.P,fun j i x hj hx=>hw.row hj (tw k D hx).2,adm k lg lc D hw⟩) (fun v N hv=>hv)
theorem afl (hI:PlI k lc D) :
  Fn Tryz.prog 16 [pt k.P] (PlR k lg lc D) (AlP k.ep (abV D)):=by
 have h:=ac4 k.p k.q k.g k.h k.f k.sec k.ns k.ep k.gM k.P (lsV lg lc (ddK k.ep D)) (ddM k.ep D) (α:=PxT D) (fun y=>y.1.1) (fun y=>ddH k.ep y.1.2.1) (fun y=>y.1.2) (rL D) (pkD k lg D) lg (ckD k lc D) (bsD k lg D) (List.mem_cons_self ..)
  (fun j _=>adn k lg lc D j) (rH k lc D hI) (qY k lc D hI) (fun x=>ut _ _) (fun x=>yP _ _) (afn k lg D) (fun j i x _ hx=>(tw k D hx).1)
  (tE hI.dist) (fun x=>List.mem_map.2 ⟨x.1.2,x.2,rfl⟩) (fun x=>hI.fit _ x.2)
 rw[aex] at h;exact h.weak (fun w hw=>⟨hw.P,fun j i x hj hx=>hw.row hj (tw k D hx).2,adm k lg lc D hw,hw.M,fun x=>hw.dd x.2⟩) (fun v N hv=>hv)
def aL (ep:Nat) (D:List (Dd × Dk)) (H:List Nat):Option Nat:=(D.find? fun x=>ddH ep x.1 == H).map fun x=>x.1.d
theorem afk (hI:PlI k lc D) (pl:Option Addr) (cl:Nat) (hs:List (List Nat)) (hb:∀ H∈hs,(∀ b∈H,b<256)∧H.length=32) (hl:hs.length<1000000)
  (hf1 : -9223372036854775808≤(k.N.length:Int) - k.f) (hf2:(k.N.length:Int) - k.f≤9223372036854775807) :
  Fn Tryz.prog 15 [pt k.P,.slice pl hs.length cl] (fun w=>PlR k lg lc D w∧RdF byC (.slice pl hs.length cl) hs w) (Is (.bool (mz (aL k.ep D) 0 hs && decide ((k.N.length:Int) - k.f≤(hs.length:Int))))):=by
 have h:=acP k.p k.q k.g k.h k.f k.sec (some ⟨k.gN,0,none⟩) k.cN k.N.length k.ep k.gM k.P (lsV lg lc (ddK k.ep D)) (ddM k.ep D) pl cl hs (aL k.ep D) hb (tE hI.dist)
  (fun H hH hf u hu=>by
   unfold aL at hf;rw[Option.map_eq_none_iff,List.find?_eq_none] at hf;obtain⟨x,hx,e⟩:=List.mem_map.1 hu;have e1:hsV (ddH k.ep x.1)=hsV H:=(Prod.mk.inj e).1;exact hf x hx (by simpa using ou e1))
  (fun H hH d hf=>by
   unfold aL at hf;obtain⟨x,hx,rfl⟩:=Option.map_eq_some_iff.1 hf;have hm:=List.mem_of_find?_eq_some hx;have hp:=List.find?_some hx;have hp' : ddH k.ep x.1=H:=by simpa using hp
   refine⟨x.1,x.2,rfl,by have:=(hI.d1 x hm).2;have:=hI.n7;omega,?_⟩;rw[← hp'];exact List.mem_map.2 ⟨x,hm,rfl⟩) hl hf1 hf2
 exact h.weak (fun w hw=>⟨hw.1.P,hw.1.M,hw.2⟩) (fun v N hv=>hv)
end
theorem FnL.frame {P:Program} {f:FuncId} {args:List Value} {M R L:List Ent} {Rq Rq' : World→Prop} {post post' : Value→List Ent→Prop} (h:FnL P f args M Rq post) (hpm:L.Perm (M++R)) (hR:∀ w,(∀ e∈L,e.ok w)→Rq' w→Rq w)
  (hp:∀ v N,post v N→∃ N',(N++R).Perm N'∧post' v N'):FnL P f args L Rq' post':=by
 intro w hok hnd hw;have h0:Me w (L.map Ent.g) L w:=⟨.refl _ _,hok,fun e he=>.inr (List.mem_map.2 ⟨e,he,rfl⟩),hnd⟩;have h1:=h0.perm hpm;have hn1:=h1.nodup;rw[List.map_append,List.nodup_append] at hn1;refine (h w (fun e he=>h1.ok e (List.mem_append_left _ he)) hn1.1 (hR w hok hw)).mono ?_;rintro e w' ⟨v,N,rfl,hm,hq⟩;obtain⟨N',h2,h3⟩:=hp v N hq;exact⟨v,N',rfl,(h1.callL hm).perm h2,h3⟩
theorem nM {f:Nat→List Ent} {d:Nat}:∀ {l:List Nat},l.Nodup→d∈l→(l.flatMap f).Perm (f d++(l.filter fun x=>!(x == d)).flatMap f)
 | [],_,h=>by cases h
 | a::l,hn,h=>by
  rw[List.nodup_cons] at hn
  by_cases e:a=d
  ·subst e;have:(a::l).filter (fun x=>!(x == a))=l:=by
    rw[List.filter_cons_of_neg (by simp)];exact List.filter_eq_self.2 (fun x hx=>by
     have:x≠a:=fun e=>hn.1 (e ▸ hx);simpa using this)
   rw[this];exact .refl _
  ·have hd:d∈l:=(List.mem_cons.1 h).resolve_left (fun h=>e h.symm);have ih:=nM (f:=f) hn.2 hd;rw[List.filter_cons_of_pos (by simpa using e),List.flatMap_cons,List.flatMap_cons];refine (List.Perm.append_left _ ih).trans ?_;rw[← List.append_assoc,← List.append_assoc];exact List.Perm.append_right _ List.perm_append_comm
def aJ (lg lc:Nat→Nat) (hk:Nat→List (List Nat)) (d:Nat):List Ent:=((List.range 8).filter fun x=>!(x == d)).flatMap (lsE lg lc hk)
theorem jz (lg lc:Nat→Nat) (hk:Nat→List (List Nat)) {d:Nat} (h:d<8):(lsL lg lc hk).Perm (lsE lg lc hk d++aJ lg lc hk d):=nM List.nodup_range (List.mem_range.2 h)
theorem pp {α β:Type} {f g:α→List β}:∀ {l:List α},(∀ x∈l,f x=g x)→l.flatMap f=l.flatMap g
 | [],_=>rfl
 | a::l,h=>by rw[List.flatMap_cons,List.flatMap_cons,h a (by simp),pp (fun x hx=>h x (by simp[hx]))]
theorem acH {lg lc lg' lc' : Nat→Nat} {hk hk' : Nat→List (List Nat)} {d:Nat} (h:∀ j,j≠d→lg' j=lg j∧lc' j=lc j∧hk' j=hk j):aJ lg' lc' hk' d=aJ lg lc hk d:=by
 unfold aJ;refine pp ?_;intro j hj;have hj' : j≠d:=by have:=(List.mem_filter.1 hj).2;simpa using this
 obtain⟨h1,h2,h3⟩:=h j hj';unfold lsE;rw[h1,h2,h3]
theorem jx (ep:Nat) (D:List (Dd × Dk)) (x:Dd × Dk) (j:Nat):ddK ep (D++[x]) j=ddK ep D j++(if x.1.d=j then [ddH ep x.1] else []):=by
 unfold ddK;rw[List.filter_append,List.map_append];congr 1
 by_cases h:x.1.d=j
 ·rw[if_pos h,List.filter_cons_of_pos (by simpa using h)];simp
 ·rw[if_neg h,List.filter_cons_of_neg (by simpa using h)];simp
structure ac0 (k:Pl):Prop where
 p:k.p<zd
 q:k.q<zd
 g:k.g<zd
 h:k.h<zd
 N:yz k.N
 f1 : -9223372036854775808≤k.f
 f2:k.f≤9223372036854775807
 s1 : -9223372036854775808≤k.sec
 s2:k.sec≤9223372036854775807
def ckP (k:Pl) (x:Dd):Option Int:=ckE k.p k.q k.g k.h k.f k.sec k.N k.ep x.d x.V x.Y x.P x.c x.s
section
variable (k:Pl) (lg lc:Nat→Nat) (D:List (Dd × Dk)) (x:Dd) (pV pY pP:Option Addr) (cV cY cP:Nat)
theorem acv (hI:PlI k lc D) (hx:mR x) (hd:x.d<256) {y:Dd × Dk} (hy:y∈D) (he:ddH k.ep y.1=ddH k.ep x) :
  Fn Tryz.prog 12 [pt k.P,adc k.ep x pV pY pP cV cY cP] (fun w=>PlR k lg lc D w∧adb x pV pY pP cV cY cP w) (Is (.tuple #[.bool false,.int .i64 0])) :=
 (ab0 k.p k.q k.g k.h k.f k.sec (some ⟨k.gN,0,none⟩) k.cN k.N k.ep k.gM k.P (lsV lg lc (ddK k.ep D)) x.d x.c x.s pV pY pP cV cY cP x.V x.Y x.P (ddM k.ep D) (ut k.ep x) hx.v hx.y hx.p hx.vl hx.yl hx.pl hd (tE hI.dist) (List.mem_map.2 ⟨y,hy,by rw[he];rfl⟩)).weak
  (fun w hw=>⟨hw.1.P,hw.1.M,hw.2.v,hw.2.y,hw.2.p⟩) (fun _ _ h=>h)
theorem afx (hn:∀ y∈D,ddH k.ep y.1≠ddH k.ep x):∀ u,(hsV (ddH k.ep x),u) ∉ ddM k.ep D:=fun u hu=>by
 obtain⟨y,hy,e⟩:=List.mem_map.1 hu;exact hn y hy (ou (Prod.mk.inj e).1)
theorem abt (b0:Dk) (hK:ac0 k) (hI:PlI k lc D) (hx:mR x) (hxn:ac8 x) (hd:0<x.d∧x.d≤k.N.length) (hn:∀ y∈D,ddH k.ep y.1≠ddH k.ep x) (he:ckP k x=none) (hs:D.length+1≤1000) (h0:0 ∉ (y9 k lg lc D).map Ent.g) :
  FnL Tryz.prog 12 [pt k.P,adc k.ep x (some ⟨b0.v,0,none⟩) (some ⟨b0.y,0,none⟩) (some ⟨b0.p,0,none⟩) cV cY cP] (y9 k lg lc D++ddL x b0) oF
   (fun v N=>v=.tuple #[.bool true,.int .i64 0]∧∃ b lg' lc',N=y9 k lg' lc' (D++[(x,b)])++ddL x b0∧PlI k lc' (D++[(x,b)])):=by
 intro w hok hnd hw;have hd8:x.d<8:=by have:=hI.n7;omega
 have hlD:(ddK k.ep D x.d).length≤1000:=by
  unfold ddK;rw[List.length_map];exact Nat.le_trans (List.length_filter_le _ _) hI.small
 have hpm:(y9 k lg lc D++ddL x b0).Perm ((⟨k.P,102,plC k.p k.q k.g k.h k.f k.sec k.ns k.ep k.gM (lsV lg lc (ddK k.ep D))⟩::mpE k.gM (ddM k.ep D)::lsE lg lc (ddK k.ep D) x.d)++(⟨k.gN,96,k.N.flatMap yf++mkz (k.cN - k.N.length) (y7 0 0)⟩::(aJ lg lc (ddK k.ep D) x.d++(ddR D++ddL x b0)))):=by
  unfold y9;simp only[List.cons_append,List.append_assoc];refine .cons _ (.cons _ ?_);refine List.Perm.trans (.cons _ (List.Perm.append_right _ (jz lg lc (ddK k.ep D) hd8))) ?_;rw[List.append_assoc];exact List.perm_middle.symm
 have hnd2:=(hpm.map Ent.g).nodup_iff.1 hnd;rw[List.map_append,List.nodup_append] at hnd2;have hfar:∀ a,(some (⟨b0.v,0,none⟩ : Addr)=some a∨some (⟨b0.y,0,none⟩ : Addr)=some a∨some (⟨b0.p,0,none⟩ : Addr)=some a∨some (⟨k.gN,0,none⟩ : Addr)=some a)→a.block ∉ (k.P::k.gM::(rwL 53 (lg x.d) ((ddK k.ep D x.d).flatMap byC) (mkz (lc x.d - (ddK k.ep D x.d).length) (byC (List.replicate 32 0))) (ddK k.ep D x.d).length).map Ent.g):=by
  intro a ha hm;have hm' : a.block∈(⟨k.P,102,plC k.p k.q k.g k.h k.f k.sec k.ns k.ep k.gM (lsV lg lc (ddK k.ep D))⟩::mpE k.gM (ddM k.ep D)::lsE lg lc (ddK k.ep D) x.d:List Ent).map Ent.g:=hm;refine hnd2.2.2 _ hm' a.block ?_ rfl
  rcases ha with e|e|e|e<;>cases e<;>simp[ddL]
 have h00:0 ∉ (k.P::k.gM::(rwL 53 (lg x.d) ((ddK k.ep D x.d).flatMap byC) (mkz (lc x.d - (ddK k.ep D x.d).length) (byC (List.replicate 32 0))) (ddK k.ep D x.d).length).map Ent.g):=by
  intro hm;refine h0 ?_;have hm' : 0∈(⟨k.P,102,plC k.p k.q k.g k.h k.f k.sec k.ns k.ep k.gM (lsV lg lc (ddK k.ep D))⟩::mpE k.gM (ddM k.ep D)::lsE lg lc (ddK k.ep D) x.d:List Ent).map Ent.g:=hm
  rcases List.mem_cons.1 hm with e|hm
  ·exact List.mem_map.2 ⟨_,List.mem_cons_self ..,e.symm⟩
  ·rcases List.mem_cons.1 hm with e|hm
   ·exact List.mem_map.2 ⟨_,List.mem_cons_of_mem _ (List.mem_cons_self ..),e.symm⟩
   ·obtain⟨e,he,h1⟩:=List.mem_map.1 hm;refine List.mem_map.2 ⟨e,List.mem_cons_of_mem _ (List.mem_cons_of_mem _ (List.mem_cons_of_mem _ (List.mem_append_left _ (List.mem_flatMap.2 ⟨x.d,List.mem_range.2 hd8,he⟩)))),h1⟩
 have h:=abB k.p k.q k.g k.h k.f k.sec (some ⟨k.gN,0,none⟩) k.cN k.N k.ep k.gM k.P (lsV lg lc (ddK k.ep D)) x (some ⟨b0.v,0,none⟩) (some ⟨b0.y,0,none⟩) (some ⟨b0.p,0,none⟩) cV cY cP (ddM k.ep D) (ddK k.ep D x.d) (lg x.d) (lc x.d)
  (ut k.ep x) hx.v hx.y hx.p hx.vl hx.yl hx.pl hd8 (tE hI.dist) (afx k D x hn) he hK.p hK.q hK.g hK.h hK.N (by have:=hI.n7;omega) hK.f1 hK.f2 hK.s1 hK.s2 hxn.v hxn.y hxn.p hxn.c hxn.s rfl hlD (hI.room x.d)
  (fun b hb=>by
   unfold ddK at hb;obtain⟨y,_,rfl⟩:=List.mem_map.1 hb;rw[ze];exact yP _ _) hfar h00
 refine FnL.frame h hpm (fun w1 h1 h2=>?_) (fun v N hv=>?_) w hok hnd hw
 ·have hA:=adb.of (x:=x) (b:=b0) (cV:=cV) (cY:=cY) (cP:=cP) (fun e he=>h1 e (List.mem_append_right _ he));have hR:PlR k lg lc D w1:=fun e he=>h1 e (List.mem_append_left _ he);exact⟨hA.v,hA.y,hA.p,hR.N,h2⟩
 ·obtain⟨g1,c1,b,rfl,r1,r2,rfl⟩:=hv;have hkd:ddK k.ep (D++[(x,b)]) x.d=ddK k.ep D x.d++[ddH k.ep x]:=by rw[jx,if_pos rfl]
  have hko:∀ j,j≠x.d→ddK k.ep (D++[(x,b)]) j=ddK k.ep D j:=fun j hj=>by rw[jx,if_neg (fun e=>hj e.symm),List.append_nil]
  have hl1:(ddK k.ep (D++[(x,b)]) x.d).length=(ddK k.ep D x.d).length+1:=by rw[hkd];simp
  refine⟨_,?_,rfl,b,(fun j=>if j=x.d then g1 else lg j),(fun j=>if j=x.d then c1 else lc j),rfl,?_⟩
  ·have hV:lsV (fun j=>if j=x.d then g1 else lg j) (fun j=>if j=x.d then c1 else lc j) (ddK k.ep (D++[(x,b)]))=aay (lsV lg lc (ddK k.ep D)) x.d (.slice (some ⟨g1,0,none⟩) ((ddK k.ep D x.d).length+1) c1):=by
    funext j;unfold aay lsV
    by_cases e:j=x.d
    ·subst e;dsimp only;rw[if_pos rfl,if_pos rfl,if_pos rfl,hl1];rfl
    ·dsimp only;rw[if_neg e,if_neg e,if_neg e,hko j e]
   have hM:ddM k.ep (D++[(x,b)])=ddM k.ep D++[(hsV (ddH k.ep x),ddV k.ep x b)]:=by unfold ddM;rw[List.map_append];rfl
   have hE:lsE (fun j=>if j=x.d then g1 else lg j) (fun j=>if j=x.d then c1 else lc j) (ddK k.ep (D++[(x,b)])) x.d=[⟨g1,53,(ddK k.ep D x.d++[ddH k.ep x]).flatMap byC++mkz (c1 - ((ddK k.ep D x.d).length+1)) (byC (List.replicate 32 0))⟩]:=by
    unfold lsE;dsimp only;rw[if_pos rfl,if_pos rfl,ye Om,hkd];simp
   have hO:aJ (fun j=>if j=x.d then g1 else lg j) (fun j=>if j=x.d then c1 else lc j) (ddK k.ep (D++[(x,b)])) x.d=aJ lg lc (ddK k.ep D) x.d:=acH (fun j hj=>⟨if_neg hj,if_neg hj,hko j hj⟩);unfold y9;rw[hV,hM,kZ];simp only[List.cons_append,List.append_assoc];refine .cons _ (.cons _ ?_);have hls:=jz (fun j=>if j=x.d then g1 else lg j) (fun j=>if j=x.d then c1 else lc j) (ddK k.ep (D++[(x,b)])) hd8;rw[hE,hO] at hls;refine List.Perm.trans ?_ (.cons _ (List.Perm.append_right _ hls.symm));simp only[List.cons_append,List.append_assoc,List.nil_append];refine List.Perm.trans ?_ (List.Perm.swap _ _ _);refine .cons _ ?_;refine List.Perm.trans List.perm_middle ?_;refine .cons _ ?_;have hz:((ddL x b++(aJ lg lc (ddK k.ep D) x.d++ddR D))++ddL x b0).Perm (((aJ lg lc (ddK k.ep D) x.d++ddR D)++ddL x b)++ddL x b0):=List.Perm.append_right _ List.perm_append_comm;simpa only[List.append_assoc] using hz
  ·refine⟨fun y hy=>?_,fun y hy=>?_,?_,fun j hj=>?_,hI.n7,by rw[List.length_append];exact hs⟩
   ·rcases List.mem_append.1 hy with hy|hy
    ·exact hI.fit y hy
    ·rw[List.mem_singleton.1 hy];exact hx
   ·rcases List.mem_append.1 hy with hy|hy
    ·exact hI.d1 y hy
    ·rw[List.mem_singleton.1 hy];exact hd
   ·rw[List.map_append,List.nodup_append];refine⟨hI.dist,by simp,fun a ha b hb e=>?_⟩;obtain⟨y,hy,rfl⟩:=List.mem_map.1 ha;have:b=ddH k.ep x:=by simpa using hb
    exact hn y hy (e.trans this)
   ·by_cases e:j=x.d
    ·subst e;rw[hl1,if_pos rfl];exact⟨r1,r2⟩
    ·rw[hko j e] at hj ⊢;rw[if_neg e];exact hI.room j hj
end
end Sx
end
section
open Go Go.RowKit Go.BigFrame
namespace Sx
section
variable {P:Program} {w0:World} {gs:List Nat} {n:Nat} {ops:List Oper} {Q:Exit→Act→World→Prop} {K:List (Nat × Value)} {L:List Ent} {rest:List Oper}
variable {d:Nat} {op:Op} {ty:TypeId} {pos:String} {after:Array Edge} {gd:Option (Nat × Bool)}
theorem WO.flip {A T:List Ent} (k:WO P w0 gs n ops Q K (A++T) rest):WO P w0 gs n ops Q K (T++A) rest:=fun a w h1 h2 h3 h4=>k a w h1 h2 h3 (h4.perm List.perm_append_comm)
theorem WO.callsT {f:FuncId} [Cal P f] {xs:Array Operand} {ats:Array TypeId} {ar:List Value} {M A T R0:List Ent} {Rq:World→Prop} {post:Value→List Ent→Prop} {post' : Value→List Ent→Prop} (hc:FnL P f ar (T++M) Rq post) (hq:∀ v N,post v N→∃ T',N=T'++M∧post' v T') (hL:L=A++T) (hA:Pks A M R0)
  (hR:∀ w,Mr w0 gs L w→Rq w) (k:∀ v T',post' v T'→WO P w0 gs n ops Q ((d,v)::K) (A++T') rest) (ha:evs K xs.toList=some ar:=by rfl) (hd:Nat.blt d n=true:=by rfl) (hw:wk ops K gd=some true:=by rfl) :
  WO P w0 gs n ops Q K L (⟨some d,.call { callee:=.value (.func f),args:=xs,argTypes:=ats },ty,pos,after,gd⟩::rest):=by
 intro a w hdf hsz hk hme;subst hL;refine wpList_step fun F hF=>?_;rw[if_pos (yu (o:=⟨some d,.call { callee:=.value (.func f),args:=xs,argTypes:=ats },ty,pos,after,gd⟩) hk hw)];have hd' : d<n:=by simpa [Nat.blt_eq] using hd
 have hpm:(A++T).Perm ((T++M)++R0):=by
  refine List.perm_append_comm.trans ?_;rw[List.append_assoc];exact List.Perm.append_left _ hA.perm
 have hme':=hme.perm hpm;have hnd:=hme'.nodup;rw[List.map_append,List.nodup_append] at hnd;unfold Oper.wp;have h1:=yX (P:=P) (f:=f) (ty:=ty) (pos:=pos) (after:=after) (gd:=gd) (dst:=some d) (ats:=ats) (x:=.func f) (w:=w) (fs:=[]) (cs:=[]) hk rfl ha;simp only[List.nil_append,List.append_nil] at h1;rw[h1,Oper.upon_enter];refine (hc w (fun e he=>hme'.ok e (List.mem_append_left _ he)) hnd.1 (hR w hme.mr)).mono ?_;rintro e w' ⟨v,N,rfl,hm,hp⟩;obtain⟨T',rfl,hp'⟩:=hq v N hp;have h5:=hme'.callL hm;rw[List.append_assoc] at h5;have h6:(T'++(M++R0)).Perm (A++T'):=(List.Perm.append_left _ hA.perm.symm).trans List.perm_append_comm;exact hF _ _ (k v T' hp' _ _ (by rw[put_defers];exact hdf) (by rw[zO];exact hsz) (hk.put Om v) (h5.perm h6))
end
structure afI (k:Pl) (p q g h:Nat) (f sec:Int) (N:List (Nat × Nat)) (ep:Nat):Prop where
 p:k.p=p
 q:k.q=q
 g:k.g=g
 h:k.h=h
 f:k.f=f
 sec:k.sec=sec
 N:k.N=N
 ep:k.ep=ep
theorem afe (p q g h:Nat) (f sec:Int) (pt' : Option Addr) (c:Nat) (N:List (Nat × Nat)) (ep:Nat) (hp:p<zd) (hq:q<zd) (hg:g<zd) (hh:h<zd) (hN:yz N) (hNl:N.length≤100)
  (hf1 : -9223372036854775808≤f) (hf2:f≤9223372036854775807) (hs1 : -9223372036854775808≤sec) (hs2:sec≤9223372036854775807) (hep:ep<18446744073709551616) (hS:v6 p q g h f sec N=true) :
  Fn Tryz.prog 9 [stV p q g h f sec (.slice pt' N.length c),.int .u64 (ep:Int)] (fun w=>RdF yf (.slice pt' N.length c) N w) (fun v M=>∃ k:Pl,v=.tuple #[Sx.pt k.P,.int .i64 0]∧M=y9 k (fun _=>0) (fun _=>0) []∧afI k p q g h f sec N ep):=by
 refine Fn.perm (fo p q g h f sec pt' c N ep hp hq hg hh hN hNl hf1 hf2 hs1 hs2 hep) ?_;rintro v M ⟨hv,_⟩;obtain⟨P,gN,cN,gM,rfl,rfl⟩:=hv hS;exact⟨_,(List.Perm.swap _ _ _).cons _,⟨P,gM,gN,cN,p,q,g,h,ep,f,sec,N⟩,rfl,rfl,rfl,rfl,rfl,rfl,rfl,rfl,rfl,rfl⟩
theorem PlI.nil (k:Pl) (h7:k.N.length≤7):PlI k (fun _=>0) []:=⟨by simp,by simp,by simp,fun j hj=>absurd hj (by simp[ddK]),h7,by simp⟩
inductive Tl:List Ent→List Ent→List Ent→Prop
 | here {T:List Ent}:Tl T [] T
 | cons {e:Ent} {L A T:List Ent}:Tl L A T→Tl (e::L) (e::A) T
 | app {X L A T:List Ent}:Tl L A T→Tl (X++L) (X++A) T
theorem Tl.eq {L A T:List Ent} (h:Tl L A T):L=A++T:=by
 induction h with
 | here=>rfl
 | cons _ ih=>rw[ih];rfl
 | app _ ih=>rw[ih,List.append_assoc]
theorem Hs.of_mem {L:List Ent} {g t:Nat} {cs:List Value} (h:(⟨g,t,cs⟩ : Ent)∈L):Hs L g t cs:=by
 induction L with
 | nil=>cases h
 | cons e L ih =>
  rcases List.mem_cons.1 h with h|h
  ·rw[← h];exact .here
  ·exact .there (ih h)
theorem adt (k:Pl) (lg lc:Nat→Nat) (D:List (Dd × Dk)) (hI:PlI k lc D) (hp:0<D.length):Fn Tryz.prog 16 [pt k.P] (PlR k lg lc D) (Ex (fun s=>.slice (some ⟨s 0,0,none⟩) D.length D.length) (fun _=>[]) (fun _=>True)) :=
 Fn.drop (afl k lg lc D hI) (fun v N hv=>by
  obtain⟨g,c,E,h1,rfl,_⟩:=hv;have h2:=congrArg List.length h1;rw[List.length_map,dX k lc D hI] at h2;refine⟨fun _=>g,?_,rfl,trivial⟩;show agV g E.length E.length E.length=_;rw[h2,yd hp])
section
variable (k:Pl) (lg lc:Nat→Nat) (D:List (Dd × Dk)) (x:Dd) (cV cY cP:Nat) (b0:Dk)
def afF (k:Pl) (D:List (Dd × Dk)) (x:Dd) (was:Bool):Value→List Ent→Prop:=fun v T'=>v=.tuple #[.bool (!was),.int .i64 0]∧∃ lg' lc' D',T'=y9 k lg' lc' D'∧PlI k lc' D'∧(D'.map Prod.fst=if was then D.map Prod.fst else D.map Prod.fst++[x])∧∃ z∈D',ddH k.ep z.1=ddH k.ep x
theorem cZ (hK:ac0 k) (hI:PlI k lc D) (hx:mR x) (hxn:ac8 x) (hd:0<x.d∧x.d≤k.N.length) (he:ckP k x=none) (hs:D.length+1≤1000) (h0:0 ∉ (y9 k lg lc D).map Ent.g) (was:Bool) (hw:was=D.any (fun y=>decide (ddH k.ep y.1=ddH k.ep x))) :
  FnL Tryz.prog 12 [pt k.P,adc k.ep x (some ⟨b0.v,0,none⟩) (some ⟨b0.y,0,none⟩) (some ⟨b0.p,0,none⟩) cV cY cP] (y9 k lg lc D++ddL x b0) oF (fun v N=>∃ T',N=T'++ddL x b0∧afF k D x was v T'):=by
 cases was with
 | true =>
  obtain⟨y,hy,hye⟩:=List.any_eq_true.1 hw.symm;have hye' : ddH k.ep y.1=ddH k.ep x:=by simpa using hye
  have h:=acv k lg lc D x (some ⟨b0.v,0,none⟩) (some ⟨b0.y,0,none⟩) (some ⟨b0.p,0,none⟩) cV cY cP hI hx (by have:=hI.n7;omega) hy hye';have h2:=Fn.toL (Fn.drop (post':=fun v N=>v=.tuple #[.bool false,.int .i64 0]∧N=[]) h (fun v N hv=>⟨hv,rfl⟩));refine FnL.frame h2 (R:=y9 k lg lc D++ddL x b0) (.refl _) (fun w1 h1 h2=>⟨fun e he=>h1 e (List.mem_append_left _ he),adb.of (fun e he=>h1 e (List.mem_append_right _ he))⟩) (fun v N hv=>?_);obtain⟨rfl,rfl⟩:=hv;exact⟨_,.refl _,_,rfl,rfl,lg,lc,D,rfl,hI,rfl,y,hy,hye'⟩
 | false =>
  have hn:∀ y∈D,ddH k.ep y.1≠ddH k.ep x:=fun y hy e=>by
   have:=List.any_eq_false.1 hw.symm y hy;simp[e] at this
  refine (abt k lg lc D x cV cY cP b0 hK hI hx hxn hd hn he hs h0).weak (fun _ h=>h) (fun v N hv=>?_);obtain⟨rfl,b,lg',lc',rfl,hI'⟩:=hv;exact⟨_,rfl,rfl,lg',lc',_,rfl,hI',by simp,(x,b),by simp,rfl⟩
theorem aeU (hI:PlI k lc D) {z:Dd × Dk} (hz:z∈D):Fn Tryz.prog 13 [pt k.P,.agg (byC (ddH k.ep z.1)).toArray] (PlR k lg lc D)
  (Ex (fun s => .tuple #[dlV k.ep z.1.d (.slice (some ⟨s 0, 0, none⟩) z.1.V.length z.1.V.length) (.slice (some ⟨s 1, 0, none⟩) z.1.Y.length z.1.Y.length) (.slice (some ⟨s 2, 0, none⟩) z.1.P.length z.1.P.length) z.1.c z.1.s, .int .i64 0])
      (fun s=>[⟨s 0,24,z.1.V.flatMap zb++mkz (s 3) (zb 0)⟩,⟨s 1,24,z.1.Y.flatMap zb++mkz (s 4) (zb 0)⟩,⟨s 2,86,z.1.P.flatMap pfC++mkz (s 5) (y7 0 0)⟩]) (fun _=>True)):=by
 have hf:=hI.fit z hz;refine (aeu k.p k.q k.g k.h k.f k.sec k.ns k.ep k.gM k.P (lsV lg lc (ddK k.ep D)) (ddM k.ep D) (ddH k.ep z.1) z.1 z.2 (ut _ _) (yP _ _) (tE hI.dist) (List.mem_map.2 ⟨z,hz,rfl⟩) hf.v hf.y hf.p hf.vl hf.yl hf.pl).weak (fun w hw=>?_) (fun _ _ h=>h);have hd:=hw.dd hz;exact⟨hw.P,hw.M,hd.v,hd.y,hd.p⟩
end
section
variable {w0:World} {gs:List Nat} {K:List (Nat × Value)} {L:List Ent}
theorem aw (b:Bool) (w:World):(binOp .eql 4 (.bool (!b)) (.bool b)).run Tryz.prog w=.ok (.bool false) w:=by cases b<;>kernel_rfl
theorem adU {x y:Operand} {yt ty:TypeId} {b:Bool} (hx:ev K x=some (.bool (!b))) (hy:ev K y=some (.bool b)):Does Tryz.prog w0 gs K L (.binOp .eql 4 x y yt) ty (.bool false):=by
 intro ac w hk _ o ho _;simp only[execOp,ho,hk.eval hx,hk.eval hy,Sem.run_bind,lM,Result.andThen_ok,aw,Sem.run_pure]
end
structure Dq where
 d:Nat
 pt:Option Addr
 P:List Nat
 c:Nat
def dqF (x:Dq):List Value:=dqC x.d (.slice x.pt x.P.length x.c)
structure afp (w:World) (x:Dq):Prop where
 d:x.d<256
 P:∀ y∈x.P,y<4294967296
 r:RdE aag (.slice x.pt x.P.length x.c) x.P w
theorem aeq {l:List Dq} {o i:Nat} {x:Dq} (h:l[i]?=some x):cut (l.flatMap dqF) (o+i*2 - o) 2=dqF x:=by
 rw[Nat.add_sub_cancel_left];exact zQ (f:=dqF) (k:=2) (fun _=>rfl) h
theorem eJ {ep:Nat} {D:List (Dd × Dk)} {j:Nat} {H:List Nat} (h:H∈ddK ep D j):∃ y∈D,y.1.d=j∧ddH ep y.1=H:=by
 unfold ddK at h;obtain⟨y,hy,rfl⟩:=List.mem_map.1 h;obtain⟨h1,h2⟩:=List.mem_filter.1 hy;exact⟨y,h1,by simpa using h2,rfl⟩
theorem dv {ep:Nat} {D:List (Dd × Dk)} {j:Nat} (h:∀ y∈D,y.1.d≠j):ddK ep D j=[]:=by
 unfold ddK;rw[List.map_eq_nil_iff,List.filter_eq_nil_iff];intro y hy;have:=h y hy;simpa using this
theorem sr {α β:Type} {f:α→β}:∀ {l:List α},(l.map f).Nodup→∀ {a b:α},a∈l→b∈l→f a=f b→a=b
 | [],_,_,_,h,_,_=>by cases h
 | x::l,hn,a,b,ha,hb,e=>by
  rw[List.map_cons,List.nodup_cons] at hn;obtain⟨h1,h2⟩:=hn
  rcases List.mem_cons.1 ha with ea|ha
  ·rcases List.mem_cons.1 hb with eb|hb
   ·rw[ea,eb]
   ·rw[ea] at e;exact absurd (List.mem_map.2 ⟨b,hb,e.symm⟩) h1
  ·rcases List.mem_cons.1 hb with eb|hb
   ·rw[eb] at e;exact absurd (List.mem_map.2 ⟨a,ha,e⟩) h1
   ·exact sr h2 ha hb e
theorem acl {ep:Nat} {D:List (Dd × Dk)} (hd:(D.map fun x=>ddH ep x.1).Nodup) {j:Nat} {H:List Nat} (h:H∈ddK ep D j):aL ep D H=some j:=by
 obtain⟨y,hy,rfl,rfl⟩:=eJ h;unfold aL;cases hf:D.find? (fun x=>ddH ep x.1 == ddH ep y.1) with
 | none =>
  rw[List.find?_eq_none] at hf;exact absurd (hf y hy) (by simp)
 | some z =>
  have hz:=List.mem_of_find?_eq_some hf;have he:=List.find?_some hf;have:z=y:=sr hd hz hy (by simpa using he);rw[this];rfl
theorem p8 {ep:Nat} {D:List (Dd × Dk)} (hd:(D.map fun x=>ddH ep x.1).Nodup):∀ (m j last:Nat),last<j→mz (aL ep D) last ((List.range' j m).flatMap fun k=>(ddK ep D k).take 1)=true
 | 0,_,_,_=>rfl
 | m+1,j,last,h=>by
  rw[List.range'_succ,List.flatMap_cons];cases hk:ddK ep D j with
  | nil=>exact p8 hd m (j+1) last Om
  | cons H r =>
   have hf:=acl hd (j:=j) (H:=H) (by rw[hk];simp);show mz (aL ep D) last (H::_)=true;rw[mj,hf];show (decide (last<j) && _)=true;rw[decide_eq_true h,Bool.true_and];exact p8 hd m (j+1) j Om
theorem aK {k:Pl} {lc:Nat→Nat} {D:List (Dd × Dk)} (hI:PlI k lc D):mz (aL k.ep D) 0 (sF k.ep D)=true:=by
 unfold sF;rw[show List.range 8=0::List.range' 1 7 by decide,List.flatMap_cons,dv (fun y hy=>by have:=(hI.d1 y hy).1;omega)];exact p8 hI.dist 7 1 0 Om
def qi (D:List (Dd × Dk)) (n:Nat):Nat:=((List.range' 1 n).filter fun j=>D.any fun y=>y.1.d == j).length
theorem mf (D:List (Dd × Dk)) (n:Nat):qi D (n+1)=qi D n+(if (D.any fun y=>y.1.d == n+1)=true then 1 else 0):=by
 unfold qi;rw[List.range'_1_concat,List.filter_append,List.length_append,Nat.add_comm 1 n];congr 1
 by_cases h:(D.any fun y=>y.1.d == n+1)=true
 ·rw[if_pos h,List.filter_cons_of_pos (p:=fun j=>D.any fun y=>y.1.d == j) h];rfl
 ·rw[if_neg h,List.filter_cons_of_neg (p:=fun j=>D.any fun y=>y.1.d == j) h];rfl
theorem nf {ep:Nat} {D:List (Dd × Dk)}:∀ l:List Nat,(l.flatMap fun k=>(ddK ep D k).take 1).length=(l.filter fun j=>D.any fun y=>y.1.d == j).length
 | []=>rfl
 | j::l=>by
  rw[List.flatMap_cons,List.length_append,nf l]
  by_cases h:(D.any fun y=>y.1.d == j)=true
  ·rw[List.filter_cons_of_pos (p:=fun j=>D.any fun y=>y.1.d == j) h,List.length_cons];obtain⟨y,hy,hj⟩:=List.any_eq_true.1 h;have:0<(ddK ep D j).length:=by
    unfold ddK;rw[List.length_map];exact List.length_pos_iff.2 (List.ne_nil_of_mem (List.mem_filter.2 ⟨hy,hj⟩))
   rw[List.length_take];omega
  ·rw[List.filter_cons_of_neg (p:=fun j=>D.any fun y=>y.1.d == j) h];have:ddK ep D j=[]:=dv (fun y hy e=>h (List.any_eq_true.2 ⟨y,hy,by simpa using e⟩));rw[this];simp
theorem ji {k:Pl} {lc:Nat→Nat} {D:List (Dd × Dk)} (hI:PlI k lc D):(sF k.ep D).length=qi D k.N.length:=by
 have h7:=hI.n7;unfold sF;rw[nf];unfold qi;have e:List.range 8=0::(List.range' 1 k.N.length++List.range' (1+k.N.length) (7 - k.N.length)):=by
  rw[List.range'_append_1,show k.N.length+(7 - k.N.length)=7 by omega];decide
 have hno:∀ j,(j=0∨k.N.length<j)→¬ (D.any fun y=>y.1.d == j)=true:=fun j hj h=>by
  obtain⟨y,hy,h1⟩:=List.any_eq_true.1 h;have:=hI.d1 y hy;have h2:y.1.d=j:=by simpa using h1
  omega
 rw[e,List.filter_cons_of_neg (p:=fun j=>D.any fun y=>y.1.d == j) (hno 0 (.inl rfl)),List.filter_append];have:(List.range' (1+k.N.length) (7 - k.N.length)).filter (fun j=>D.any fun y=>y.1.d == j)=[]:=by
  rw[List.filter_eq_nil_iff];intro j hj;obtain⟨h1,_⟩:=List.mem_range'_1.1 hj;exact hno j (.inr Om)
 rw[this,List.append_nil]
end Sx
end
section
end
end Go.Proofs.YtiiefkchpicncaaGreatDoor
