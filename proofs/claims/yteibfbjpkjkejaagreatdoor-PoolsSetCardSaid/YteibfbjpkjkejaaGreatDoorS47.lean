/- Part 47 of the proof. -/
import Derived.Test.YteibfbjpkjkejaaGreatDoorS46
set_option linter.unusedSimpArgs false
set_option linter.unusedVariables false
set_option maxHeartbeats 8000000
namespace Go.Proofs.YteibfbjpkjkejaaGreatDoor
section
open Go Go.RowKit Go.BigFrame
namespace Sx
attribute [local irreducible] DQ DQS WC WO wd
abbrev lm (g c:Nat) (H:List (List Nat)):List Ent:=rwL 60 g (H.flatMap byC) (mkz (c - H.length) (byC (List.replicate 32 0))) H.length
abbrev ng (g c:Nat) (H:List (List Nat)):Value:=agV g c H.length H.length
theorem oe {g2 gB P gO cO:Nat} {v:Value} {F:List (List Nat)} (_:Unit:=()):((((⟨g2,64,[v]⟩::lm gO cO F)++[⟨gB,41,[pt P]⟩]):List Ent).all fun e=>!e.k.map)=true:=by
 cases F<;>rfl
theorem abY {w W:World} {g2 gO cO g m c:Nat} {F:List (List Nat)} {R:List Ent} (h:Me w [] ((⟨g2,64,[ng gO cO F]⟩::lm gO cO F)++R) W) (hv:ng gO cO F=.slice (some ⟨g,0,none⟩) m c):g<W.heap.size:=by
 cases F with
 | nil=>cases hv
 | cons a F =>
  have:=(h.ok ⟨gO,60,_⟩ (List.mem_append_left _ (List.mem_cons_of_mem _ (List.mem_singleton.2 rfl)))).lt;cases hv;exact this
theorem ok_one {W:World} {g t:Nat} {u v:Value} (ht:t≠0) (h1:(⟨g,t,[u]⟩ : Ent).ok W) (h2:(⟨g,t,[v]⟩ : Ent).ok W):u=v:=by
 have a:=h1.row ht;rw[h2.row ht] at a;cases a;rfl
theorem Lle.skp {e:Ent} {L:List Ent}:∀ {L' : List Ent},Lle L' L→Lle L' (e::L)
 | [],_=>trivial
 | _::_,⟨cs,L2,h1,h2,h3⟩=>⟨cs,e::L2,.there h1,h2,Lle.skp h3⟩
theorem abP {g c:Nat} {F:List (List Nat)} (h:F.length≤c):∃ p c',ng g c F=.slice p F.length c'∧F.length≤c'∧Value.slice p F.length F.length=ng g F.length F:=by
 cases F with
 | nil=>exact⟨none,0,rfl,Nat.le_refl _,rfl⟩
 | cons a F=>exact⟨some ⟨g,0,none⟩,c,rfl,h,rfl⟩
theorem te:∀ {H:List (List Nat)},(∀ h∈H,(byC h).length=32)→(H.flatMap byC).length=H.length*32
 | [],_=>rfl
 | a::H,h=>by rw[List.flatMap_cons,List.length_append,te (fun x hx=>h x (by simp[hx])),h a (by simp),List.length_cons];omega
def FsP (b:Bool) (H:List (List Nat)):Value→List Ent→Prop:=fun v N =>
 (b=false→v=.tuple #[.slice none 0 0,.bool false])∧(b=true→∃ g c,v=.tuple #[ng g H.length H,.bool true]∧N=lm g c H)
section
variable (p q g h:Nat) (f sec:Int) (pN:Option Addr) (cN n:Nat) (ep gM P:Nat) (lv:Nat→Value)
theorem fy {α:Type} (fi:α→Nat) (fh:α→List Nat) (hk:Nat→List α) (pk:Nat→Option Addr) (bk ck:Nat→Nat) (BS:List Nat) (hPB:P∈BS)
  (hlv:∀ k,k<8→lv k=.slice (pk k) (hk k).length (ck k)) (hn:∀ k,(hk k).length<1000000) (hX:(tD hk 8).length<10000000) (hb:∀ x,(byC (fh x)).length=32)
  (hpa:∀ k,k<8→hk k≠[]→pk k=some ⟨bk k,0,none⟩∧bk k∈BS) (hfi:∀ k i x,k<8→(hk k)[i]?=some x→fi x=i)
  (hf1 : -9223372036854775808≤(n:Int) - f) (hf2:(n:Int) - f≤9223372036854775807) :
  Fn Tryz.prog 15 [pt P] (fun w=>Seg w P 0 (plC p q g h f sec (.slice pN n cN) ep gM lv)∧(∀ k i x,k<8→(hk k)[i]?=some x→Seg w (bk k) (0+i*32) (byC (fh x)))∧∀ k∈BS,k<w.heap.size)
   (FsP (decide ((n:Int) - f≤((zQ fi fh (tD hk 8)).length:Int))) (zQ fi fh (tD hk 8))):=by
 have hT:=sD p q g h f sec (.slice pN n cN) ep gM P lv;have hA:=abX P;intro w hw;obtain⟨w1,w2,w3⟩:=hw;refine uV (n:=26) 3 Tryz.func15 rfl rfl rfl ?_
 repeat (first|refine Ta ?_|(refine Tm ?_;intro _)|refine WO.acallR (hc:=hT) (hR:=fun wx hm=>w1.mod hm.mod (by simp)) (k:=?_)|refine WO.acallX (hc:=hA) (hR:=fun _ _=>trivial) (k:=fun s _=>?_)|refine Tc ?_|exact Tz)
 rename_i g2 hs0;clear hs0;generalize s 0=gB;refine WC.ndp' (fun hnd=>?_);refine WC.mine (fun hmn=>?_);simp only[List.map_append,List.map_cons,List.map_nil,List.cons_append,List.nil_append] at hnd hmn;refine WC.unf (fun a w4 d1 d2 d3 d4=>?_);have lB:=(d4.ok ⟨gB,_,_⟩ (Hs.mem Hs.a)).lt;have l2:=(d4.ok ⟨g2,_,_⟩ (Hs.mem Hs.a)).lt;have sB:=(d4.ok ⟨gB,_,_⟩ (Hs.mem Hs.a)).seg 0;simp only[List.drop_zero] at lB l2 sB;have hn0:=d4.mod.size;have B2:w.heap.size≤g2:=(hmn ⟨g2,_,_⟩ (Hs.mem Hs.a)).resolve_right (by simp);have hne:gB≠g2:=by intro e;simp[e] at hnd
 clear hnd hmn;have hk4:zT BS w w4:=zT.of_mod d4.mod (fun k hk=>⟨w3 k hk,by simp⟩);have hks:∀ k∈gB::BS,k<w4.heap.size∧k≠g2:=by
  intro k hk
  rcases List.mem_cons.1 hk with rfl|hk
  ·exact⟨lB,hne⟩
  ·have:=w3 k hk;omega
 obtain⟨I,hI0⟩ : ∃ I:List α→World→Prop,∀ pre W,I pre W↔(∃ gO cO,((zQ fi fh pre).length≤cO∧cO<9223372036854775808)∧Me w [] ((⟨g2,64,[ng gO cO (zQ fi fh pre)]⟩::lm gO cO (zQ fi fh pre))++[⟨gB,41,[pt P]⟩]) W∧w4.heap.size≤W.heap.size):=⟨_,fun _ _=>Iff.rfl⟩;refine (wpIn_wide (n:=3)).1 ?_
 refine wpIn_rangeFunc_ownH (F:=Fence.wide) rfl (by omega) (gf:=70) (lb:=#[pt gB]) (d3.eval (x:=.tmp 10) rfl) trivial (enters_of Tryz.func70 (by kernel_rfl) rfl)
  (all_stops 2 fi fh hk pk bk ck (gB::BS) p q g h f sec (.slice pN n cN) ep gM P gB lv w4 (by simp) (by simp[hPB]) hlv hn hb sB (hk4.seg hPB w1) (fun k h1 h2=>⟨(hpa k h1 h2).1,by simp[(hpa k h1 h2).2]⟩) hfi (fun k i x h1 h2=>hk4.seg (hpa k h1 (by rintro e;rw[e] at h2;simp at h2)).2 (w2 k i x h1 h2)) (fun k hk=>(hks k hk).1))
  KpB.trans (KpB.put (fun k hk=>(hks k hk).1)) (Below.refl _ _) (fun _=>rfl)
  I (fun _ _ _=>False)
  (fun pre A B row hs hg hr=>by
   obtain⟨gO,cO,h1,h2,h3⟩:=(hI0 _ _).1 hs;exact (hI0 _ _).2 ⟨gO,cO,h1,h2.own hn0 hg hr oe,Nat.le_trans h3 hg.size⟩)
  (fun _ _ _ _ _ hs _ _=>hs)
  ((hI0 _ _).2 ⟨0,0,⟨by simp[zQ],by decide⟩,Lle.me (L':=[⟨g2,64,[.slice none 0 0]⟩,⟨gB,41,[pt P]⟩]) (by repeat (first|exact Lle.nil|refine Lle.c ?_)) d4,Nat.le_refl _⟩)
  (fun x a' W=>a'.defers=[]∧a'.tmps.size=26∧∃ q5,Kn [(4,.int .i64 (fi x:Int)),(5,pt q5),(0,pt P),(2,pt g2)] a'∧(⟨q5,60,byC (fh x)⟩ : Ent).ok W∧w4.heap.size≤q5∧∃ v,(⟨g2,64,[v]⟩ : Ent).ok W∧∀ g m c,v=.slice (some ⟨g,0,none⟩) m c→q5≠g)
  (fun x a' _ A B row ⟨e1,e2,q5,e3,e4,e5,v,e6,e7⟩ hg hr=>⟨e1,e2,q5,e3,e4.own hg hr,e5,v,e6.own hg hr,e7⟩)
  ?assign ?body ?done ?stop
 case assign =>
  intro lr pre x W K hI hK;have hbx:=hb x;have hQ:¬ LetsOut (Exit.then K (fun _ _ _=>False)):=fun ⟨_,_,h⟩=>h;have hkn:Kn ([(11,.int .i64 (fi x:Int)),(12,hsV (fh x))]++[(0,pt P),(2,pt g2)]) { tmps:=((#[11,12]:Array Tmp).zip #[.int .i64 (fi x:Int),hsV (fh x)]).foldl (fun t (p,v)=>t.setIfInBounds p v) a.tmps,defers:=[] }:=by
   have k00:Kn [(0,pt P),(2,pt g2)] a:=Kle.kn d3 (by repeat (first|exact Kle.nil|refine Kle.cons rfl rfl ?_));have k0:Kn [(0,pt P),(2,pt g2)] ({ a with defers:=[] }:Act):=k00;have k1:=k0.put (d:=11) (by show 11<a.tmps.size;omega) (.int .i64 (fi x:Int));have k2:=k1.put (d:=12) (by rw[zP];show 12<a.tmps.size;omega) (hsV (fh x));have k3:Kn ([(11,.int .i64 (fi x:Int)),(12,hsV (fh x))]++[(0,pt P),(2,pt g2)]) _:=Kle.kn k2 (by repeat (first|exact Kle.nil|refine Kle.cons rfl rfl ?_));intro t v ht;have k4:=k3 t v ht;simpa [Act.put,Array.zip] using k4
  suffices HH:WI (some lr) 1 Tryz.prog W [] 26 _ (Exit.then K (fun _ _ _=>False)) ([(11,.int .i64 (fi x:Int)),(12,hsV (fh x))]++[(0,pt P),(2,pt g2)]) [] from HH _ W rfl (by simp[d2]) hkn (Me.refl W [])
  repeat (first|refine WO.stores (zC (vs:=byC (fh x)) (cs':=byC (fh x)) (hl:=hbx) (h1:=zM _) (hc:=z7 (by rw[hbx];rfl)) (hle:=by rw[hbx];rfl)) ?_|refine WO.nil ?_|refine WO.skip ?_|refine WX.seqI ?_|refine WI.seq ?_|refine WI.region ?_ (by exact hQ)|refine WO.autoS (k:=?_)|(refine WO.autoM (k:=?_);intro _)|refine WO.auto (k:=?_)|refine WO.does yv ?_|refine WO.does vx ?_|refine WI.ret ?_|refine WI.skip ?_|refine WX.then_ret ?_|refine WX.noPanic ?_|refine WX.blk_normal ?_|refine WX.blk_ret ?_|refine WX.then_exit ?_|refine WX.blk_exit ?_|refine WX.blk_pass rfl ?_|refine WI.exit ?_|refine WI.block ?_|refine WX.scp_normal ?_|refine WX.scp_ret ?_|refine WX.scp_exit ?_|refine WI.condT rfl ?_|refine WI.condF rfl ?_)
  rename_i q5;intro a2 W2 e1 e2 e3 e4;have o5:=e4.ok ⟨q5,_,_⟩ (Hs.mem Hs.a);have m5:=(e4.mine ⟨q5,_,_⟩ (Hs.mem Hs.a)).resolve_right (by simp);obtain⟨gO,cO,h1,h2,h3⟩:=(hI0 _ _).1 hI
  refine hK a2 W2 ⟨e4.mod.size,fun k o _ hk _=>(e4.mod.block k (Array.getElem?_eq_some_iff.1 hk).1 (by simp)).trans hk⟩ ⟨zT.of_mod e4.mod (fun k hk=>⟨Nat.lt_of_lt_of_le (hks k hk).1 h3,by simp⟩),e4.mod.size⟩ ((hI0 _ _).2 ⟨gO,cO,h1,h2.below e4.mod.below,Nat.le_trans h3 e4.mod.size⟩)
   ⟨e1,e2,q5,Kle.kn e3 (by repeat (first|exact Kle.nil|refine Kle.cons rfl rfl ?_)),o5,Nat.le_trans h3 m5,_,(h2.below e4.mod.below).ok _ (List.mem_append_left _ (List.mem_cons_self ..)),fun g m c hv=>by
    have h5:=abY h2 hv;have h6:W.heap.size≤q5:=m5;omega⟩
 case body =>
  rintro lr pre x a' W hl _ hIa ⟨e1,e2,q5,e3,o5,hq5,v5,ov5,hv5⟩ hlen;obtain⟨gO,cO,⟨hc1,hc2⟩,hI,hIs⟩:=(hI0 _ _).1 hIa;have hsn:=m6 fi fh pre x;have hbx:=hb x;have hFl:=ei fi fh pre;have hF32:((zQ fi fh pre).flatMap byC).length=(zQ fi fh pre).length*32:=te (fun y hy=>by
   unfold zQ at hy;obtain⟨z,_,rfl⟩:=List.mem_map.1 hy;exact hb z)
  have s5:=o5.seg 0;simp only[List.drop_zero] at s5;have hQ:¬ LetsOut (ownPostG w4.heap.size (KpB (gB::BS)) I (fun _ _ _=>False) (pre++[x]) W):=fun ⟨_,_,h⟩=>h;have hkK:∀ {gs:List Nat} {W2:World},Mod gs W W2→(∀ k∈gB::BS,k ∉ gs)→KpB (gB::BS) W W2:=fun hm hg=>⟨zT.of_mod hm (fun k hk=>⟨Nat.lt_of_lt_of_le (hks k hk).1 hIs,hg k hk⟩),hm.size⟩
  by_cases h0:fi x=0
  ·rw[if_pos h0] at hsn;have hfin:∀ (g1 c1:Nat) (a2:Act) (W2:World),(zQ fi fh pre).length+1≤c1→c1<9223372036854775808→Me W ((⟨g2,64,[ng gO cO (zQ fi fh pre)]⟩::lm gO cO (zQ fi fh pre)).map Ent.g) (⟨g2,64,[ng g1 c1 (zQ fi fh pre++[fh x])]⟩::lm g1 c1 (zQ fi fh pre++[fh x])) W2→ownPostG w4.heap.size (KpB (gB::BS)) I (fun _ _ _=>False) (pre++[x]) W .normal a2 W2:=by
    intro g1 c1 a2 W2 r1 r2 f4;have hnd:=hI.nodup;rw[List.map_append,List.nodup_append] at hnd;have hall:=List.all_eq_true.1 (oe (g2:=g2) (gB:=gB) (P:=P) (gO:=gO) (cO:=cO) (v:=ng gO cO (zQ fi fh pre)) (F:=zQ fi fh pre));refine⟨⟨f4.mod.size,fun k o hk0 hk hc=>(f4.mod.block k (Array.getElem?_eq_some_iff.1 hk).1 (fun hx=>?_)).trans hk⟩,hkK f4.mod (fun k hk hx=>?_),(hI0 _ _).2 ⟨g1,c1,?_⟩⟩
    ·obtain⟨e,he,rfl⟩:=List.mem_map.1 hx;exact (hI.ok e (List.mem_append_left _ he)).far (by simpa using hall e (List.mem_append_left _ he)) hk hc
    ·rcases List.mem_cons.1 hk with rfl|hk
     ·exact hnd.2.2 _ hx _ (by simp) rfl
     ·have:=w3 k hk;obtain⟨e,he,rfl⟩:=List.mem_map.1 hx;have:=(hI.mine e (List.mem_append_left _ he)).resolve_right (by simp);omega
    ·rw[hsn];exact⟨⟨by rw[List.length_append];exact r1,r2⟩,Me.callL hI f4,Nat.le_trans hIs f4.mod.size⟩
   have h0' : ((fi x:Nat):Int)=0:=by omega
   rw[h0'] at e3;have hcH:cut (byC (fh x)) 0 32=byC (fh x):=zz hbx;have h1H:(byC (fh x)).length=1*(byC (List.replicate 32 0)).length:=by rw[hbx];rfl
   generalize zQ fi fh pre=F at *
   rcases Nat.eq_zero_or_pos F.length with hF0|hpos
   ·obtain rfl:=List.length_eq_zero_iff.1 hF0;have i2:=hI.ok ⟨g2,64,[.slice none 0 0]⟩ (List.mem_append_left _ (List.mem_cons_self ..));have b5:q5 ∉ [g2]:=by simp;omega
    have hm0:Me W [g2] [⟨g2,64,[.slice none 0 0]⟩] W:=⟨.refl _ _,by simpa using i2,by simp,by simp⟩
    suffices HH:WI (some lr) 1 Tryz.prog W [g2] 26 _ (ownPostG w4.heap.size (KpB (gB::BS)) I (fun _ _ _=>False) (pre++[x]) W) [(4,.int .i64 0),(5,pt q5),(0,pt P),(2,pt g2)] [⟨g2,64,[.slice none 0 0]⟩] from HH a' W e1 e2 e3 hm0
    refine WI.block (WI.seq (WI.region ?_ (by exact hQ)));refine WO.auto (k:=?_);refine WO.auto (k:=?_);refine WO.nil (WX.seqI ?_);refine WI.condT rfl ?_;refine WI.region ?_ (by exact hQ);refine WO.auto (k:=?_);refine WO.does (zn (vs:=byC (fh x)) (hs:=s5) (hb:=b5) (hle:=Nat.le_refl _) (hc:=by rw[Nat.sub_self];exact zz hbx) (hl:=hbx)) ?_;refine WO.makes (ze (cs:=byC (fh x)) rfl (by decide) (vk hbx)) ?_;intro gT;refine WO.appNZ (z:=byC (List.replicate 32 0)) (ys:=byC (fh x)) (m:=1) rfl rfl rfl (Rds.own (m:=32) Hs.a hcH) h1H (by decide) (by decide) (by decide) (by decide) (fun g1 c1 a2 a3=>?_);refine Ta ?_;refine WO.nil (WX.blk_normal ?_);intro a2' W2 f1 f2 f3 f4;exact hfin g1 c1 a2' W2 a3 a2 (Lle.me (by simp only[List.nil_append,List.length_singleton,ng,lm,agV,rwL,List.flatMap_cons,List.flatMap_nil,List.append_nil];(repeat (first|exact Lle.nil|refine Lle.c ?_))) f4)
   ·have i2:=hI.ok ⟨g2,64,[ng gO cO F]⟩ (List.mem_append_left _ (List.mem_cons_self ..));have hsl:ng gO cO F=.slice (some ⟨gO,0,none⟩) F.length cO:=vU hpos;have hrl:lm gO cO F=[⟨gO,60,F.flatMap byC++mkz (cO - F.length) (byC (List.replicate 32 0))⟩]:=vA hpos;have hvv:=ok_one (by decide) ov5 i2;have b5:q5 ∉ [g2,gO]:=by
     have:=hv5 gO F.length cO (hvv.trans hsl);simp;omega
    rw[hsl] at i2;have iO:=hI.ok ⟨gO,60,F.flatMap byC++mkz (cO - F.length) (byC (List.replicate 32 0))⟩ (List.mem_append_left _ (List.mem_cons_of_mem _ (by rw[hrl];exact List.mem_singleton.2 rfl)));have hg2O:g2≠gO:=by
     have hnd:=hI.nodup;rw[hrl] at hnd;intro e;simp[e] at hnd
    have hm0:Me W [g2,gO] [⟨g2,64,[.slice (some ⟨gO,0,none⟩) F.length cO]⟩,⟨gO,60,F.flatMap byC++mkz (cO - F.length) (byC (List.replicate 32 0))⟩] W:=⟨.refl _ _,fun e he=>(List.mem_cons.1 he).elim (fun h=>h ▸ i2) (fun he=>(List.mem_singleton.1 he) ▸ iO),by simp,by simpa using hg2O⟩;have hfin' : ∀ (g1 c1:Nat) (a2:Act) (W2:World),F.length+1≤c1→c1<9223372036854775808→Me W [g2,gO] [⟨g2,64,[.slice (some ⟨g1,0,none⟩) (F.length+1) c1]⟩,⟨g1,60,(F.flatMap byC++byC (fh x))++mkz (c1 - (F.length+1)) (byC (List.replicate 32 0))⟩] W2→ownPostG w4.heap.size (KpB (gB::BS)) I (fun _ _ _=>False) (pre++[x]) W .normal a2 W2:=by
     intro g1 c1 a2 W2 r1 r2 f4;have hfl:(F++[fh x]).length=F.length+1:=by simp
     refine hfin g1 c1 a2 W2 r1 r2 ?_;show Me W ((⟨g2,64,[ng gO cO F]⟩::lm gO cO F).map Ent.g) (⟨g2,64,[agV g1 c1 (F++[fh x]).length (F++[fh x]).length]⟩::rwL 60 g1 ((F++[fh x]).flatMap byC) (mkz (c1 - (F++[fh x]).length) (byC (List.replicate 32 0))) (F++[fh x]).length) W2;rw[vU (by omega),vA (by omega),hfl,List.flatMap_append];show Me W (g2::(lm gO cO F).map Ent.g) _ W2;rw[hrl];simpa using f4
    suffices HH:WI (some lr) 1 Tryz.prog W [g2,gO] 26 _ (ownPostG w4.heap.size (KpB (gB::BS)) I (fun _ _ _=>False) (pre++[x]) W) [(4,.int .i64 0),(5,pt q5),(0,pt P),(2,pt g2)] [⟨g2,64,[.slice (some ⟨gO,0,none⟩) F.length cO]⟩,⟨gO,60,F.flatMap byC++mkz (cO - F.length) (byC (List.replicate 32 0))⟩] from HH a' W e1 e2 e3 hm0
    refine WI.block (WI.seq (WI.region ?_ (by exact hQ)));refine WO.auto (k:=?_);refine WO.auto (k:=?_);refine WO.nil (WX.seqI ?_);refine WI.condT rfl ?_;refine WI.region ?_ (by exact hQ);refine WO.auto (k:=?_);refine WO.does (zn (vs:=byC (fh x)) (hs:=s5) (hb:=b5) (hle:=Nat.le_refl _) (hc:=by rw[Nat.sub_self];exact zz hbx) (hl:=hbx)) ?_;refine WO.makes (ze (cs:=byC (fh x)) rfl (by decide) (vk hbx)) ?_;intro gT;refine WO.appKZ (z:=byC (List.replicate 32 0)) (m:=1) (l:=F.length+1) rfl rfl rfl (xs:=F.flatMap byC) (ys:=byC (fh x)) hF32 hc1 Pk.a (Rds.own (m:=32) Hs.a hcH) h1H (zM _) rfl (by omega) hc2 (by omega) (by decide) (by decide) (fun g1 c1 a2 a3=>?_);refine Ta ?_;refine WO.nil (WX.blk_normal ?_);intro a2' W2 f1 f2 f3 f4;exact hfin' g1 c1 a2' W2 a3 a2 (Lle.me (by repeat (first|exact Lle.nil|refine Lle.c ?_)) f4)
  ·rw[if_neg h0,List.append_nil] at hsn;have h0' : decide (((fi x:Nat):Int)=0)=false:=decide_eq_false (by omega)
   suffices HH:WI (some lr) 1 Tryz.prog W [] 26 _ (ownPostG w4.heap.size (KpB (gB::BS)) I (fun _ _ _=>False) (pre++[x]) W) [(4,.int .i64 (fi x:Int)),(5,pt q5),(0,pt P),(2,pt g2)] [] from HH a' W e1 e2 e3 (Me.refl W [])
   refine WI.block (WI.seq (WI.region ?_ (by exact hQ)));refine WO.auto (k:=?_);refine WO.does (mF rfl rfl h0') ?_;refine WO.nil (WX.seqI ?_);refine WI.condF rfl ?_;refine WI.skip (WX.blk_normal ?_);intro a2 W2 f1 f2 f3 f4;refine⟨⟨f4.mod.size,fun k o hk0 hk hc=>(f4.mod.block k (Array.getElem?_eq_some_iff.1 hk).1 (by simp)).trans hk⟩,hkK f4.mod (fun k hk=>by simp),(hI0 _ _).2 ⟨gO,cO,?_⟩⟩;rw[hsn];exact⟨⟨hc1,hc2⟩,hI.below f4.mod.below,Nat.le_trans hIs f4.mod.size⟩
 case done =>
  rintro D ys W hD rfl hIa hK;obtain⟨gO,cO,⟨hc1,hc2⟩,hI,hIs⟩:=(hI0 _ _).1 hIa;have hlD:D<W.heap.size:=(Array.getElem?_eq_some_iff.1 hK).1;have hall:=List.all_eq_true.1 (oe (g2:=g2) (gB:=gB) (P:=P) (gO:=gO) (cO:=cO) (v:=ng gO cO (zQ fi fh (tD hk 8))) (F:=zQ fi fh (tD hk 8)));have i2:=hI.ok ⟨g2,64,[ng gO cO (zQ fi fh (tD hk 8))]⟩ (List.mem_append_left _ (List.mem_cons_self ..));have hm0:Me W [g2] [⟨g2,64,[ng gO cO (zQ fi fh (tD hk 8))]⟩] W:=⟨.refl _ _,by simpa using i2,by simp,by simp⟩;have hPW:Seg W P 0 (plC p q g h f sec (.slice pN n cN) ep gM lv):=w1.mod hI.mod (by simp);have hD2:D≠g2:=fun e=>by
   rw[e] at hK;exact i2.far rfl hK rfl
  generalize zQ fi fh (tD hk 8)=F at *;have hE:=kY p q g h f sec ep gM P lv pN n cN F.length hf1 hf2;obtain⟨pO,c',r1,r2,r3⟩:=abP (g:=gO) hc1;have hI' : Me w [] ([⟨g2,64,[ng gO cO F]⟩]++(lm gO cO F++[⟨gB,41,[pt P]⟩])) W:=hI;rw[r1] at hm0 hI';have hP2:P ∉ [g2]:=by have:=w3 P hPB;simp;omega
  have hfin:∀ {v:Value} {W3:World},Me W [g2] [⟨g2,64,[v]⟩] W3→Me w [] (⟨g2,64,[v]⟩::(lm gO cO F++[⟨gB,41,[pt P]⟩])) W3∧W3.heap[D]?=some (.deferred (some [])):=fun f4=>⟨Me.callL (M:=[⟨g2,64,[.slice pO F.length c']⟩]) hI' f4,(f4.mod.block D hlD (by simpa using hD2)).trans hK⟩;have hno:∀ (v:Value),∀ e∈(⟨g2,64,[v]⟩::(lm gO cO F++[⟨gB,41,[pt P]⟩]):List Ent),e.k.map=false:=fun v e he=>by
   have:=List.all_eq_true.1 (oe (g2:=g2) (gB:=gB) (P:=P) (gO:=gO) (cO:=cO) (v:=v) (F:=F)) e he;simpa using this
  have hDw:w.heap.size≤D:=Nat.le_trans hn0 hD;obtain⟨b,hbb⟩ : ∃ b,decide ((n:Int) - f≤(F.length:Int))=b:=⟨_,rfl⟩;rw[hbb] at hE ⊢;refine wp_seq (wp_seq (WO.tailR (w0:=W) (gs:=[g2]) (n:=26) (K:=[(0,pt P),(2,pt g2)]) (L:=[⟨g2,64,[.slice pO F.length c']⟩]) (ds:=[{ target:=.collected D,args:=#[] }]) (by rw[d1]) d2 (Kle.kn d3 (by repeat (first|exact Kle.nil|refine Kle.cons rfl rfl ?_))) hm0 ?_))
  iterate 3 refine WO.auto (k:=?_)
  refine WO.acallR (hc:=hE) (hR:=fun wx hm=>hPW.mod hm.mod hP2) (k:=?_);refine WO.auto (k:=?_);refine WO.nil ?_;intro a2 W2 f1 f2 f3 f4;cases b with
  | false =>
   refine wp_cond_true (f3.eval (x:=.tmp 23) rfl) ?_;refine WO.tail (w0:=W) (gs:=[g2]) (n:=26) (K:=[(0,pt P),(2,pt g2)]) (L:=[⟨g2,64,[.slice pO F.length c']⟩]) (ds:=[{ target:=.collected D,args:=#[] }]) (by simp[dfA,f1]) f2 (Kle.kn f3 (by repeat (first|exact Kle.nil|refine Kle.cons rfl rfl ?_))) f4 ?_;refine Ta ?_;refine WO.auto (k:=?_);refine WO.nil ?_;intro a3 W3 g1 g2' g3 g4;obtain⟨m1,m2⟩:=hfin g4;refine wp_ret ?_;refine qZ (D:=D) (w:=w) (a:=a3) (by simp[dfA,g1]) g3 m1 hDw m2 (hno _) (ci rfl (uZ rfl Hs.here rfl) (zt rfl)) Lle.nil ⟨fun _=>rfl,fun e=>by cases e⟩
  | true =>
   have hC:=ab0 (c:=c') pO F.length r2;refine wp_cond_false (f3.eval (x:=.tmp 23) rfl) ?_;refine wp_skip ?_;refine WO.tail (w0:=W) (gs:=[g2]) (n:=26) (K:=[(0,pt P),(2,pt g2)]) (L:=[⟨g2,64,[.slice pO F.length c']⟩]) (ds:=[{ target:=.collected D,args:=#[] }]) (by simp[dfA,f1]) f2 (Kle.kn f3 (by repeat (first|exact Kle.nil|refine Kle.cons rfl rfl ?_))) f4 ?_;refine WO.auto (k:=?_);refine WO.acallR (hc:=hC) (hR:=fun wx hm=>trivial) (k:=?_);refine Ta ?_;refine WO.auto (k:=?_);refine WO.nil ?_;intro a3 W3 g1 g2' g3 g4;rw[r3] at g4;obtain⟨m1,m2⟩:=hfin g4;refine wp_ret ?_;refine qZ (D:=D) (w:=w) (a:=a3) (N:=lm gO cO F) (by simp[dfA,g1]) g3 m1 hDw m2 (hno _) (ci rfl (uZ rfl Hs.here rfl) (zt rfl)) (Lle.skp Lle.left) ⟨(fun e=>by cases e),fun _=>⟨gO,cO,rfl,rfl⟩⟩
 case stop =>
  rintro D c pre W _ _ h _;exact h.elim
end
theorem bW (E:List (Dd × Dk)) (x:Dd × Dk):ddR (E++[x])=ddR E++ddL x.1 x.2:=by
 unfold ddR;rw[List.flatMap_append];simp
theorem Lle.left' : ∀ {N:List Ent},Lle N N
 | []=>trivial
 | _::_=>⟨_,_,.here,rfl,Lle.left'⟩
structure aei (w:World) (x:Dd) (b:Dk):Prop where
 v:RdF zc (.slice (some ⟨b.v,0,none⟩) x.V.length x.V.length) x.V w
 y:RdF zc (.slice (some ⟨b.y,0,none⟩) x.Y.length x.Y.length) x.Y w
 p:RdF pfC (.slice (some ⟨b.p,0,none⟩) x.P.length x.P.length) x.P w
structure fW (x:Dd):Prop where
 v:x.V≠[]
 y:x.Y≠[]
 p:x.P≠[]
 vl:x.V.length≤100
 yl:x.Y.length≤100
 pl:x.P.length≤100
end Sx
end
section
open Go Go.RowKit Go.BigFrame
namespace Sx
attribute [local irreducible] DQ DQS WC WO WX wd
theorem aD (e d:Nat) (v y pr:Value) (sC sS:Nat) (h1:v.oneCell'=true) (h2:y.oneCell'=true) (h3:pr.oneCell'=true):Fn Tryz.prog 11 [.pointer none,dlV e d v y pr sC sS] Tr (Is (.tuple #[.bool false,.int .i64 2])):=by
 have hT:=rh;refine Fn.enter Tryz.func11 rfl rfl rfl ?_;intro w hw
 repeat (first|refine Ta ?_|(refine Tm ?_;intro _)|refine WO.acallR (hc:=hT) (hR:=fun w1 hm=>trivial) (k:=?_)|refine Tc ?_|exact Tz)
 done
theorem ix:Fn Tryz.prog 15 [.pointer none] Tr (Is (.tuple #[.slice none 0 0,.bool false])):=by
 have hT:=rh;refine Fn.enter Tryz.func15 rfl rfl rfl ?_;intro w hw
 repeat (first|refine Ta ?_|(refine Tm ?_;intro _)|refine WO.acallR (hc:=hT) (hR:=fun w1 hm=>trivial) (k:=?_)|refine Tc ?_|exact Tz)
 done
theorem bU:Fn Tryz.prog 16 [.pointer none,.slice none 0 0] Tr (Is (.bool false)):=by
 have hT:=rh;refine Fn.enter Tryz.func16 rfl rfl rfl ?_;intro w hw
 repeat (first|refine Ta ?_|(refine Tm ?_;intro _)|refine WO.acallR (hc:=hT) (hR:=fun w1 hm=>trivial) (k:=?_)|refine Tc ?_|exact Tz)
 done
theorem am:Fn Tryz.prog 12 [.pointer none] Tr (Is (.slice none 0 0)):=by
 have hT:=rh;refine Fn.enter Tryz.func12 rfl rfl rfl ?_;intro w hw
 repeat (first|refine Ta ?_|(refine Tm ?_;intro _)|refine WO.acallR (hc:=hT) (hR:=fun w1 hm=>trivial) (k:=?_)|refine Tc ?_|exact Tz)
 done
theorem adO {p q g h:Nat} {f sec:Int} {N:List (Nat × Nat)} {ep:Nat} {b:Bool} (hb:b=false) {v:Value} {M:List Ent} (h:NwP p q g h f sec N ep b v M):Is (.tuple #[.pointer none,.int .i64 1]) v M:=h.2 hb
theorem bm:Fn Tryz.prog 8 [stV 0 0 0 0 0 0 (.slice none 0 0),.int .u64 1] Tr (Is (.tuple #[.pointer none,.int .i64 1])) :=
 (ft 0 0 0 0 0 0 none 0 [] 1 (by decide) (by decide) (by decide) (by decide) (fun k hk=>by simp at hk) (by simp) (by decide) (by decide) (by decide) (by decide) (by decide)).weak (fun w _=>⟨none,0,rfl,.inl ⟨rfl,rfl⟩⟩) (fun v N hv=>adO (by decide +kernel) hv)
theorem abR:Fn Tryz.prog 7 [] Tr (Is (.bool true)):=by
 have h1:=bm;have h2:=aD 0 0 (.slice none 0 0) (.slice none 0 0) (.slice none 0 0) 0 0 rfl rfl rfl;have h3:=ix;have h4:=bU;have h5:=am;refine Fn.enter Tryz.func7 rfl rfl rfl ?_;intro w hw
 repeat (first|refine Ta ?_|(refine Tm ?_;intro _)|refine WO.acall (hc:=h1) (k:=?_)|refine WO.acall (hc:=h2) (k:=?_)|refine WO.acall (hc:=h3) (k:=?_)|refine WO.acall (hc:=h4) (k:=?_)|refine WO.acall (hc:=h5) (k:=?_)|refine Tc ?_|exact Tz)
 done
structure Pl where
 P:Nat
 gM:Nat
 gN:Nat
 cN:Nat
 p:Nat
 q:Nat
 g:Nat
 h:Nat
 ep:Nat
 f:Int
 sec:Int
 N:List (Nat × Nat)
def Pl.ns (k:Pl):Value:=.slice (some ⟨k.gN,0,none⟩) k.N.length k.cN
def vT (k:Pl) (lg lc:Nat→Nat) (D:List (Dd × Dk)):List Ent :=
 ⟨k.P,84,plC k.p k.q k.g k.h k.f k.sec k.ns k.ep k.gM (lsV lg lc (ddK k.ep D))⟩::mpE k.gM (ddM k.ep D)::⟨k.gN,78,k.N.flatMap yw++mkz (k.cN - k.N.length) (ui 0 0)⟩::(lsL lg lc (ddK k.ep D)++ddR D)
structure PlI (k:Pl) (lc:Nat→Nat) (D:List (Dd × Dk)):Prop where
 fit:∀ x∈D,fW x.1
 d1:∀ x∈D,0<x.1.d∧x.1.d≤k.N.length
 dist:(D.map fun x=>ddH k.ep x.1).Nodup
 room:∀ j,0<(ddK k.ep D j).length→(ddK k.ep D j).length≤lc j∧lc j<9223372036854775808
 n7:k.N.length≤7
 small:D.length≤1000
theorem nI (ep:Nat) (x:Dd):∀ b∈ddH ep x,b<256:=pM _ _
theorem su (ep:Nat) (x:Dd):(ddH ep x).length=32:=vh _ _
theorem ma {α β:Type} {f:α→β} (hf:∀ a b,f a=f b→a=b):∀ {l:List α},l.Nodup→(l.map f).Nodup
 | [],_=>by simp
 | a::l,h=>by
  rw[List.nodup_cons] at h;rw[List.map_cons,List.nodup_cons];refine⟨fun hm=>?_,ma hf h.2⟩;obtain⟨b,hb,e⟩:=List.mem_map.1 hm;rw[← hf _ _ e] at h;exact h.1 hb
theorem tV {ep:Nat} {D:List (Dd × Dk)} (h:(D.map fun x=>ddH ep x.1).Nodup):tf Tryz.prog 60 (ddM ep D):=by
 refine⟨fun x hx=>?_,?_⟩
 ·obtain⟨y,_,rfl⟩:=List.mem_map.1 hx;exact uX _ (nI ep y.1) (su ep y.1)
 ·have e:(ddM ep D).map Prod.fst=(D.map fun x=>ddH ep x.1).map hsV:=by unfold ddM;rw[List.map_map,List.map_map];rfl
  rw[e];exact ma (fun a b hab=>oZ hab) h
abbrev PxT (D:List (Dd × Dk)):Type:={ x:Nat × (Dd × Dk) // x.2∈D }
def tq {D:List (Dd × Dk)}:Nat→(l:List (Dd × Dk))→(∀ x∈l,x∈D)→List (PxT D)
 | _,[],_=>[]
 | i,x::l,h=>⟨(i,x),h x (by simp)⟩::tq (i+1) l (fun y hy=>h y (by simp[hy]))
theorem nl {D:List (Dd × Dk)}:∀ (i:Nat) (l:List (Dd × Dk)) (h:∀ x∈l,x∈D),(tq i l h).length=l.length
 | _,[],_=>rfl
 | i,x::l,h=>by rw[tq,List.length_cons,nl,List.length_cons]
theorem nZ {D:List (Dd × Dk)}:∀ (i:Nat) (l:List (Dd × Dk)) (h:∀ x∈l,x∈D) (j:Nat) (y:PxT D),(tq i l h)[j]?=some y→y.1.1=i+j∧l[j]?=some y.1.2
 | _,[],_,j,y,e=>by simp[tq] at e
 | i,x::l,h,0,y,e=>by
  rw[tq,List.getElem?_cons_zero] at e;cases e;exact⟨rfl,rfl⟩
 | i,x::l,h,j+1,y,e=>by
  rw[tq,List.getElem?_cons_succ] at e;obtain⟨h1,h2⟩:=nZ (i+1) l _ j y e;exact⟨by omega,by simpa using h2⟩
theorem nk {D:List (Dd × Dk)} {β:Type} (F:Dd × Dk→β):∀ (i:Nat) (l:List (Dd × Dk)) (h:∀ x∈l,x∈D),(tq i l h).map (fun y=>F y.1.2)=l.map F
 | _,[],_=>rfl
 | i,x::l,h=>by rw[tq,List.map_cons,List.map_cons,nk F (i+1)]
theorem jC {D:List (Dd × Dk)} (H:PxT D→List Nat):∀ (i:Nat) (l:List (Dd × Dk)) (h:∀ x∈l,x∈D),0<i→zQ (fun y:PxT D=>y.1.1) H (tq i l h)=[]
 | _,[],_,_=>rfl
 | i,x::l,h,hi=>by
  have:=jC H (i+1) l (fun y hy=>h y (by simp[hy])) (by omega);unfold zQ at *;rw[tq,List.filter_cons_of_neg (by simp;omega)];exact this
theorem nx {D:List (Dd × Dk)} (ep:Nat) (l:List (Dd × Dk)) (h:∀ x∈l,x∈D):zQ (fun y:PxT D=>y.1.1) (fun y=>ddH ep y.1.2.1) (tq 0 l h)=(l.map fun x=>ddH ep x.1).take 1:=by
 cases l with
 | nil=>rfl
 | cons x l =>
  have:=jC (fun y:PxT D=>ddH ep y.1.2.1) 1 l (fun y hy=>h y (by simp[hy])) (by omega);unfold zQ at *;rw[tq,List.filter_cons_of_pos (by simp),List.map_cons];show _::List.map _ (List.filter _ (tq (0+1) l _))=_;rw[show (0:Nat)+1=1 from rfl,this];simp
def qT (D:List (Dd × Dk)) (k:Nat):List (PxT D):=tq 0 (D.filter fun x=>x.1.d == k) (fun x hx=>(List.mem_filter.1 hx).1)
theorem rz {D:List (Dd × Dk)} {ep k:Nat}:(qT D k).length=(ddK ep D k).length:=by unfold qT ddK;rw[nl,List.length_map]
def rK (ep:Nat) (D:List (Dd × Dk)):List (List Nat):=(List.range 8).flatMap fun k=>(ddK ep D k).take 1
theorem r6 {α:Type} (fi:α→Nat) (fh:α→List Nat) (hk:Nat→List α):∀ l:List Nat,zQ fi fh (l.flatMap hk)=l.flatMap fun k=>zQ fi fh (hk k)
 | []=>rfl
 | a::l=>by
  have:=r6 fi fh hk l;unfold zQ at *;rw[List.flatMap_cons,List.filter_append,List.map_append,this,List.flatMap_cons]
theorem ct (ep:Nat) (D:List (Dd × Dk)):zQ (fun y:PxT D=>y.1.1) (fun y=>ddH ep y.1.2.1) (tD (qT D) 8)=rK ep D:=by
 unfold tD rK;rw[r6];congr 1;funext k;exact nx ep _ _
def ael (D:List (Dd × Dk)):List Dd:=(List.range 8).flatMap fun k=>(D.filter fun x=>x.1.d == k).map Prod.fst
theorem ae2 (D:List (Dd × Dk)):(tD (qT D) 8).map (fun y=>y.1.2.1)=ael D:=by
 unfold tD ael;rw[List.map_flatMap];congr 1;funext k;exact nk Prod.fst _ _ _
theorem jv {α:Type} (key:α→Nat):∀ (D:List α),(∀ x∈D,key x<8)→((List.range 8).flatMap fun k=>D.filter fun x=>key x == k).length=D.length
 | [],_=>by simp[List.range_succ_eq_map]
 | x::D,h=>by
  have ih:=jv key D (fun y hy=>h y (by simp[hy]));have hx:=h x (by simp);have e:∀ k,(List.filter (fun x=>key x == k) (x::D)).length=(List.filter (fun x=>key x == k) D).length+(if key x=k then 1 else 0):=fun k=>by
   by_cases hk:key x=k
   ·rw[List.filter_cons_of_pos (by simpa using hk),if_pos hk];simp
   ·rw[List.filter_cons_of_neg (by simpa using hk),if_neg hk];simp
  rw[List.length_flatMap] at ih ⊢;simp only[List.range_succ_eq_map,List.range_zero,List.map_cons,List.map_nil,List.sum_cons,List.sum_nil,e] at ih ⊢;rw[List.length_cons];have:key x=0∨key x=1∨key x=2∨key x=3∨key x=4∨key x=5∨key x=6∨key x=7:=by omega
  rcases this with h|h|h|h|h|h|h|h<;>simp[h] at ih ⊢<;>omega
def PlR (k:Pl) (lg lc:Nat→Nat) (D:List (Dd × Dk)) (w:World):Prop:=∀ e∈vT k lg lc D,e.ok w
section
variable {k:Pl} {lg lc:Nat→Nat} {D:List (Dd × Dk)} {w:World}
theorem PlR.P (h:PlR k lg lc D w):Seg w k.P 0 (plC k.p k.q k.g k.h k.f k.sec k.ns k.ep k.gM (lsV lg lc (ddK k.ep D))):=by
 have:=(h ⟨k.P,84,plC k.p k.q k.g k.h k.f k.sec k.ns k.ep k.gM (lsV lg lc (ddK k.ep D))⟩ (List.mem_cons_self ..)).seg 0;simpa using this
theorem PlR.M (h:PlR k lg lc D w):(mpE k.gM (ddM k.ep D)).ok w:=h _ (List.mem_cons_of_mem _ (List.mem_cons_self ..))
theorem PlR.N (h:PlR k lg lc D w):RdF yw k.ns k.N w:=by
 have:=(h ⟨k.gN,78,k.N.flatMap yw++mkz (k.cN - k.N.length) (ui 0 0)⟩ (List.mem_cons_of_mem _ (List.mem_cons_of_mem _ (List.mem_cons_self ..)))).seg 0;rw[List.drop_zero] at this;exact RdF.ownO this rfl
theorem gh {j:Nat} (hj:j<8) (hp:0<(ddK k.ep D j).length):(⟨lg j,60,(ddK k.ep D j).flatMap byC++mkz (lc j - (ddK k.ep D j).length) (byC (List.replicate 32 0))⟩ : Ent)∈vT k lg lc D:=by
 refine List.mem_cons_of_mem _ (List.mem_cons_of_mem _ (List.mem_cons_of_mem _ (List.mem_append_left _ ?_)));refine List.mem_flatMap.2 ⟨j,List.mem_range.2 hj,?_⟩;unfold lsE;rw[vA hp];exact List.mem_singleton.2 rfl
theorem PlR.row (h:PlR k lg lc D w) {j i:Nat} {H:List Nat} (hj:j<8) (hi:(ddK k.ep D j)[i]?=some H):Seg w (lg j) (0+i*32) (byC H):=by
 have hp:0<(ddK k.ep D j).length:=by have:=(List.getElem?_eq_some_iff.1 hi).1;omega
 have:=(h _ (gh hj hp)).seg 0;rw[List.drop_zero] at this;refine this.sub (uQ (k:=32) (fun x hx=>?_) hi);unfold ddK at hx;obtain⟨y,_,rfl⟩:=List.mem_map.1 hx;rw[zh];exact su _ _
theorem PlR.lt (h:PlR k lg lc D w) {j:Nat} (hj:j<8) (hp:0<(ddK k.ep D j).length):lg j<w.heap.size:=(h _ (gh hj hp)).lt
theorem acO {x:Dd × Dk} (hx:x∈D) {e:Ent} (he:e∈ddL x.1 x.2):e∈vT k lg lc D :=
 List.mem_cons_of_mem _ (List.mem_cons_of_mem _ (List.mem_cons_of_mem _ (List.mem_append_right _ (List.mem_flatMap.2 ⟨x,hx,he⟩))))
theorem aei.of {x:Dd} {b:Dk} (h:∀ e∈ddL x b,e.ok w):aei w x b:=by
 have h1:=(h ⟨b.v,24,x.V.flatMap zc++mkz b.rv (zc 0)⟩ (by simp[ddL])).seg 0;have h2:=(h ⟨b.y,24,x.Y.flatMap zc++mkz b.ry (zc 0)⟩ (by simp[ddL])).seg 0;have h3:=(h ⟨b.p,96,x.P.flatMap pfC++mkz b.rp (ui 0 0)⟩ (by simp[ddL])).seg 0;rw[List.drop_zero] at h1 h2 h3;exact⟨RdF.ownO h1 rfl,RdF.ownO h2 rfl,RdF.ownO h3 rfl⟩
theorem PlR.dd (h:PlR k lg lc D w) {x:Dd × Dk} (hx:x∈D):aei w x.1 x.2:=aei.of fun e he=>h e (acO hx he)
end
section
variable (k:Pl) (lg lc:Nat→Nat) (D:List (Dd × Dk))
def pkD (j:Nat):Option Addr:=if (ddK k.ep D j).length=0 then none else some ⟨lg j,0,none⟩
def ckD (j:Nat):Nat:=if (ddK k.ep D j).length=0 then 0 else lc j
def bsD:List Nat:=k.P::((List.range 8).filter fun j=>decide (0<(ddK k.ep D j).length)).map lg
theorem aeA (j:Nat):lsV lg lc (ddK k.ep D) j=.slice (pkD k lg D j) (qT D j).length (ckD k lc D j):=by
 rw[rz (ep:=k.ep)];unfold lsV pkD ckD
 rcases Nat.eq_zero_or_pos (ddK k.ep D j).length with h|h
 ·rw[h];rfl
 ·rw[vU h,if_neg (by omega),if_neg (by omega)]
theorem afh (j:Nat) (hj:j<8) (hne:qT D j≠[]):pkD k lg D j=some ⟨lg j,0,none⟩∧lg j∈bsD k lg D:=by
 have hp:0<(ddK k.ep D j).length:=by rw[← rz];exact List.length_pos_iff.2 hne
 unfold pkD bsD;rw[if_neg (by omega)];exact⟨rfl,List.mem_cons_of_mem _ (List.mem_map.2 ⟨j,List.mem_filter.2 ⟨List.mem_range.2 hj,by simpa using hp⟩,rfl⟩)⟩
theorem aeN {w:World} (h:PlR k lg lc D w):∀ b∈bsD k lg D,b<w.heap.size:=by
 intro b hb;unfold bsD at hb
 rcases List.mem_cons.1 hb with rfl|hb
 ·exact (h ⟨k.P,84,_⟩ (List.mem_cons_self ..)).lt
 ·obtain⟨j,hj,rfl⟩:=List.mem_map.1 hb;obtain⟨h1,h2⟩:=List.mem_filter.1 hj;exact h.lt (List.mem_range.1 h1) (by simpa using h2)
theorem nm {j i:Nat} {y:PxT D} (h:(qT D j)[i]?=some y):y.1.1=i∧(ddK k.ep D j)[i]?=some (ddH k.ep y.1.2.1):=by
 obtain⟨h1,h2⟩:=nZ 0 _ _ i y h;refine⟨by omega,?_⟩;unfold ddK;rw[List.getElem?_map,h2];rfl
theorem ly (hI:PlI k lc D) (j:Nat):(qT D j).length<1000000:=by
 rw[rz (ep:=k.ep)];unfold ddK;rw[List.length_map];have:=List.length_filter_le (fun x:Dd × Dk=>x.1.d == j) D;have:=hI.small;omega
theorem jI (hI:PlI k lc D):(tD (qT D) 8).length<10000000:=by
 have h1:=congrArg List.length (ae2 D);rw[List.length_map] at h1;rw[h1];have h2:=jv (fun x:Dd × Dk=>x.1.d) D (fun x hx=>by have:=(hI.d1 x hx).2;have:=hI.n7;omega);have:(ael D).length=D.length:=by
  rw[← h2];unfold ael;rw[List.length_flatMap,List.length_flatMap];simp
 have:=hI.small;omega
theorem ey (hI:PlI k lc D) (hf1 : -9223372036854775808≤(k.N.length:Int) - k.f) (hf2:(k.N.length:Int) - k.f≤9223372036854775807) :
  Fn Tryz.prog 15 [pt k.P] (PlR k lg lc D) (FsP (decide ((k.N.length:Int) - k.f≤((rK k.ep D).length:Int))) (rK k.ep D)):=by
 have h:=fy k.p k.q k.g k.h k.f k.sec (some ⟨k.gN,0,none⟩) k.cN k.N.length k.ep k.gM k.P (lsV lg lc (ddK k.ep D)) (α:=PxT D) (fun y=>y.1.1) (fun y=>ddH k.ep y.1.2.1) (qT D) (pkD k lg D) lg (ckD k lc D) (bsD k lg D) (List.mem_cons_self ..)
  (fun j _=>aeA k lg lc D j) (ly k lc D hI) (jI k lc D hI) (fun x=>by rw[zh];exact su _ _) (afh k lg D) (fun j i x _ hx=>(nm k D hx).1) hf1 hf2
 rw[ct] at h;exact h.weak (fun w hw=>⟨hw.P,fun j i x hj hx=>hw.row hj (nm k D hx).2,aeN k lg lc D hw⟩) (fun v N hv=>hv)
def iZ (ep:Nat) (D:List (Dd × Dk)) (H:List Nat):Option Nat:=(D.find? fun x=>ddH ep x.1 == H).map fun x=>x.1.d
theorem aeB (hI:PlI k lc D) (pl:Option Addr) (cl:Nat) (hs:List (List Nat)) (hb:∀ H∈hs,(∀ b∈H,b<256)∧H.length=32) (hl:hs.length<1000000)
  (hf1 : -9223372036854775808≤(k.N.length:Int) - k.f) (hf2:(k.N.length:Int) - k.f≤9223372036854775807) :
  Fn Tryz.prog 16 [pt k.P,.slice pl hs.length cl] (fun w=>PlR k lg lc D w∧RdF byC (.slice pl hs.length cl) hs w) (Is (.bool (rk (iZ k.ep D) 0 hs && decide ((k.N.length:Int) - k.f≤(hs.length:Int))))):=by
 have h:=aa4 k.p k.q k.g k.h k.f k.sec (some ⟨k.gN,0,none⟩) k.cN k.N.length k.ep k.gM k.P (lsV lg lc (ddK k.ep D)) (ddM k.ep D) pl cl hs (iZ k.ep D) hb (tV hI.dist)
  (fun H hH hf u hu=>by
   unfold iZ at hf;rw[Option.map_eq_none_iff,List.find?_eq_none] at hf;obtain⟨x,hx,e⟩:=List.mem_map.1 hu;have e1:hsV (ddH k.ep x.1)=hsV H:=(Prod.mk.inj e).1;exact hf x hx (by simpa using oZ e1))
  (fun H hH d hf=>by
   unfold iZ at hf;obtain⟨x,hx,rfl⟩:=Option.map_eq_some_iff.1 hf;have hm:=List.mem_of_find?_eq_some hx;have hp:=List.find?_some hx;have hp' : ddH k.ep x.1=H:=by simpa using hp
   refine⟨x.1,x.2,rfl,by have:=(hI.d1 x hm).2;have:=hI.n7;omega,?_⟩;rw[← hp'];exact List.mem_map.2 ⟨x,hm,rfl⟩) hl hf1 hf2
 exact h.weak (fun w hw=>⟨hw.1.P,hw.1.M,hw.2⟩) (fun v N hv=>hv)
end
theorem FnL.frame {P:Program} {f:FuncId} {args:List Value} {M R L:List Ent} {Rq Rq' : World→Prop} {post post' : Value→List Ent→Prop} (h:FnL P f args M Rq post) (hpm:L.Perm (M++R)) (hR:∀ w,(∀ e∈L,e.ok w)→Rq' w→Rq w)
  (hp:∀ v N,post v N→∃ N',(N++R).Perm N'∧post' v N'):FnL P f args L Rq' post':=by
 intro w hok hnd hw;have h0:Me w (L.map Ent.g) L w:=⟨.refl _ _,hok,fun e he=>.inr (List.mem_map.2 ⟨e,he,rfl⟩),hnd⟩;have h1:=h0.perm hpm;have hn1:=h1.nodup;rw[List.map_append,List.nodup_append] at hn1;refine (h w (fun e he=>h1.ok e (List.mem_append_left _ he)) hn1.1 (hR w hok hw)).mono ?_;rintro e w' ⟨v,N,rfl,hm,hq⟩;obtain⟨N',h2,h3⟩:=hp v N hq;exact⟨v,N',rfl,(h1.callL hm).perm h2,h3⟩
theorem nX {f:Nat→List Ent} {d:Nat}:∀ {l:List Nat},l.Nodup→d∈l→(l.flatMap f).Perm (f d++(l.filter fun x=>!(x == d)).flatMap f)
 | [],_,h=>by cases h
 | a::l,hn,h=>by
  rw[List.nodup_cons] at hn
  by_cases e:a=d
  ·subst e;have:(a::l).filter (fun x=>!(x == a))=l:=by
    rw[List.filter_cons_of_neg (by simp)];exact List.filter_eq_self.2 (fun x hx=>by
     have:x≠a:=fun e=>hn.1 (e ▸ hx);simpa using this)
   rw[this];exact .refl _
  ·have hd:d∈l:=(List.mem_cons.1 h).resolve_left (fun h=>e h.symm);have ih:=nX (f:=f) hn.2 hd;rw[List.filter_cons_of_pos (by simpa using e),List.flatMap_cons,List.flatMap_cons];refine (List.Perm.append_left _ ih).trans ?_;rw[← List.append_assoc,← List.append_assoc];exact List.Perm.append_right _ List.perm_append_comm
def aR (lg lc:Nat→Nat) (hk:Nat→List (List Nat)) (d:Nat):List Ent:=((List.range 8).filter fun x=>!(x == d)).flatMap (lsE lg lc hk)
theorem kM (lg lc:Nat→Nat) (hk:Nat→List (List Nat)) {d:Nat} (h:d<8):(lsL lg lc hk).Perm (lsE lg lc hk d++aR lg lc hk d):=nX List.nodup_range (List.mem_range.2 h)
theorem py {α β:Type} {f g:α→List β}:∀ {l:List α},(∀ x∈l,f x=g x)→l.flatMap f=l.flatMap g
 | [],_=>rfl
 | a::l,h=>by rw[List.flatMap_cons,List.flatMap_cons,h a (by simp),py (fun x hx=>h x (by simp[hx]))]
theorem acG {lg lc lg' lc' : Nat→Nat} {hk hk' : Nat→List (List Nat)} {d:Nat} (h:∀ j,j≠d→lg' j=lg j∧lc' j=lc j∧hk' j=hk j):aR lg' lc' hk' d=aR lg lc hk d:=by
 unfold aR;refine py ?_;intro j hj;have hj' : j≠d:=by have:=(List.mem_filter.1 hj).2;simpa using this
 obtain⟨h1,h2,h3⟩:=h j hj';unfold lsE;rw[h1,h2,h3]
theorem kq (ep:Nat) (D:List (Dd × Dk)) (x:Dd × Dk) (j:Nat):ddK ep (D++[x]) j=ddK ep D j++(if x.1.d=j then [ddH ep x.1] else []):=by
 unfold ddK;rw[List.filter_append,List.map_append];congr 1
 by_cases h:x.1.d=j
 ·rw[if_pos h,List.filter_cons_of_pos (by simpa using h)];simp
 ·rw[if_neg h,List.filter_cons_of_neg (by simpa using h)];simp
structure acd (x:Dd):Prop where
 v:∀ a∈x.V,a<zd
 y:∀ a∈x.Y,a<zd
 p:yz x.P
 c:x.c<zd
 s:x.s<zd
structure acf (k:Pl):Prop where
 p:k.p<zd
 q:k.q<zd
 g:k.g<zd
 h:k.h<zd
 N:yz k.N
 f1 : -9223372036854775808≤k.f
 f2:k.f≤9223372036854775807
 s1 : -9223372036854775808≤k.sec
 s2:k.sec≤9223372036854775807
def ckP (k:Pl) (x:Dd):Option Int:=ckE k.p k.q k.g k.h k.f k.sec k.N k.ep x.d x.V x.Y x.P x.c x.s
section
variable (k:Pl) (lg lc:Nat→Nat) (D:List (Dd × Dk)) (x:Dd) (pV pY pP:Option Addr) (cV cY cP:Nat)
abbrev acV (ep:Nat) (x:Dd) (pV pY pP:Option Addr) (cV cY cP:Nat):Value:=dlV ep x.d (.slice pV x.V.length cV) (.slice pY x.Y.length cY) (.slice pP x.P.length cP) x.c x.s
structure adK (x:Dd) (pV pY pP:Option Addr) (cV cY cP:Nat) (w:World):Prop where
 v:RdF zc (.slice pV x.V.length cV) x.V w
 y:RdF zc (.slice pY x.Y.length cY) x.Y w
 p:RdF pfC (.slice pP x.P.length cP) x.P w
theorem adK.of {x:Dd} {b:Dk} {cV cY cP:Nat} {w:World} (h:∀ e∈ddL x b,e.ok w):adK x (some ⟨b.v,0,none⟩) (some ⟨b.y,0,none⟩) (some ⟨b.p,0,none⟩) cV cY cP w:=by
 have h1:=(h ⟨b.v,24,x.V.flatMap zc++mkz b.rv (zc 0)⟩ (by simp[ddL])).seg 0;have h2:=(h ⟨b.y,24,x.Y.flatMap zc++mkz b.ry (zc 0)⟩ (by simp[ddL])).seg 0;have h3:=(h ⟨b.p,96,x.P.flatMap pfC++mkz b.rp (ui 0 0)⟩ (by simp[ddL])).seg 0;rw[List.drop_zero] at h1 h2 h3;exact⟨RdF.ownO h1 rfl,RdF.ownO h2 rfl,RdF.ownO h3 rfl⟩
theorem abH (hI:PlI k lc D) (hx:fW x) (hd:x.d<256) {y:Dd × Dk} (hy:y∈D) (he:ddH k.ep y.1=ddH k.ep x) :
  Fn Tryz.prog 11 [pt k.P,acV k.ep x pV pY pP cV cY cP] (fun w=>PlR k lg lc D w∧adK x pV pY pP cV cY cP w) (Is (.tuple #[.bool false,.int .i64 0])) :=
 (acQ k.p k.q k.g k.h k.f k.sec (some ⟨k.gN,0,none⟩) k.cN k.N k.ep k.gM k.P (lsV lg lc (ddK k.ep D)) x.d x.c x.s pV pY pP cV cY cP x.V x.Y x.P (ddM k.ep D) (nI k.ep x) hx.v hx.y hx.p hx.vl hx.yl hx.pl hd (tV hI.dist) (List.mem_map.2 ⟨y,hy,by rw[he];rfl⟩)).weak
  (fun w hw=>⟨hw.1.P,hw.1.M,hw.2.v,hw.2.y,hw.2.p⟩) (fun _ _ h=>h)
theorem afm (hn:∀ y∈D,ddH k.ep y.1≠ddH k.ep x):∀ u,(hsV (ddH k.ep x),u) ∉ ddM k.ep D:=fun u hu=>by
 obtain⟨y,hy,e⟩:=List.mem_map.1 hu;exact hn y hy (oZ (Prod.mk.inj e).1)
theorem acn (b0:Dk) (hK:acf k) (hI:PlI k lc D) (hx:fW x) (hxn:acd x) (hd:0<x.d∧x.d≤k.N.length) (hn:∀ y∈D,ddH k.ep y.1≠ddH k.ep x) (he:ckP k x=none) (hs:D.length+1≤1000) (h0:0 ∉ (vT k lg lc D).map Ent.g) :
  FnL Tryz.prog 11 [pt k.P,acV k.ep x (some ⟨b0.v,0,none⟩) (some ⟨b0.y,0,none⟩) (some ⟨b0.p,0,none⟩) cV cY cP] (vT k lg lc D++ddL x b0) oy
   (fun v N=>v=.tuple #[.bool true,.int .i64 0]∧∃ b lg' lc',N=vT k lg' lc' (D++[(x,b)])++ddL x b0∧PlI k lc' (D++[(x,b)])):=by
 intro w hok hnd hw;have hd8:x.d<8:=by have:=hI.n7;omega
 have hlD:(ddK k.ep D x.d).length≤1000:=by
  unfold ddK;rw[List.length_map];exact Nat.le_trans (List.length_filter_le _ _) hI.small
 have hpm:(vT k lg lc D++ddL x b0).Perm ((⟨k.P,84,plC k.p k.q k.g k.h k.f k.sec k.ns k.ep k.gM (lsV lg lc (ddK k.ep D))⟩::mpE k.gM (ddM k.ep D)::lsE lg lc (ddK k.ep D) x.d)++(⟨k.gN,78,k.N.flatMap yw++mkz (k.cN - k.N.length) (ui 0 0)⟩::(aR lg lc (ddK k.ep D) x.d++(ddR D++ddL x b0)))):=by
  unfold vT;simp only[List.cons_append,List.append_assoc];refine .cons _ (.cons _ ?_);refine List.Perm.trans (.cons _ (List.Perm.append_right _ (kM lg lc (ddK k.ep D) hd8))) ?_;rw[List.append_assoc];exact List.perm_middle.symm
 have hnd2:=(hpm.map Ent.g).nodup_iff.1 hnd;rw[List.map_append,List.nodup_append] at hnd2;have hfar:∀ a,(some (⟨b0.v,0,none⟩ : Addr)=some a∨some (⟨b0.y,0,none⟩ : Addr)=some a∨some (⟨b0.p,0,none⟩ : Addr)=some a∨some (⟨k.gN,0,none⟩ : Addr)=some a)→a.block ∉ (k.P::k.gM::(rwL 60 (lg x.d) ((ddK k.ep D x.d).flatMap byC) (mkz (lc x.d - (ddK k.ep D x.d).length) (byC (List.replicate 32 0))) (ddK k.ep D x.d).length).map Ent.g):=by
  intro a ha hm;have hm' : a.block∈(⟨k.P,84,plC k.p k.q k.g k.h k.f k.sec k.ns k.ep k.gM (lsV lg lc (ddK k.ep D))⟩::mpE k.gM (ddM k.ep D)::lsE lg lc (ddK k.ep D) x.d:List Ent).map Ent.g:=hm;refine hnd2.2.2 _ hm' a.block ?_ rfl
  rcases ha with e|e|e|e<;>cases e<;>simp[ddL]
 have h00:0 ∉ (k.P::k.gM::(rwL 60 (lg x.d) ((ddK k.ep D x.d).flatMap byC) (mkz (lc x.d - (ddK k.ep D x.d).length) (byC (List.replicate 32 0))) (ddK k.ep D x.d).length).map Ent.g):=by
  intro hm;refine h0 ?_;have hm' : 0∈(⟨k.P,84,plC k.p k.q k.g k.h k.f k.sec k.ns k.ep k.gM (lsV lg lc (ddK k.ep D))⟩::mpE k.gM (ddM k.ep D)::lsE lg lc (ddK k.ep D) x.d:List Ent).map Ent.g:=hm
  rcases List.mem_cons.1 hm with e|hm
  ·exact List.mem_map.2 ⟨_,List.mem_cons_self ..,e.symm⟩
  ·rcases List.mem_cons.1 hm with e|hm
   ·exact List.mem_map.2 ⟨_,List.mem_cons_of_mem _ (List.mem_cons_self ..),e.symm⟩
   ·obtain⟨e,he,h1⟩:=List.mem_map.1 hm;refine List.mem_map.2 ⟨e,List.mem_cons_of_mem _ (List.mem_cons_of_mem _ (List.mem_cons_of_mem _ (List.mem_append_left _ (List.mem_flatMap.2 ⟨x.d,List.mem_range.2 hd8,he⟩)))),h1⟩
 have h:=aaZ k.p k.q k.g k.h k.f k.sec (some ⟨k.gN,0,none⟩) k.cN k.N k.ep k.gM k.P (lsV lg lc (ddK k.ep D)) x (some ⟨b0.v,0,none⟩) (some ⟨b0.y,0,none⟩) (some ⟨b0.p,0,none⟩) cV cY cP (ddM k.ep D) (ddK k.ep D x.d) (lg x.d) (lc x.d)
  (nI k.ep x) hx.v hx.y hx.p hx.vl hx.yl hx.pl hd8 (tV hI.dist) (afm k D x hn) he hK.p hK.q hK.g hK.h hK.N (by have:=hI.n7;omega) hK.f1 hK.f2 hK.s1 hK.s2 hxn.v hxn.y hxn.p hxn.c hxn.s rfl hlD (hI.room x.d)
  (fun b hb=>by
   unfold ddK at hb;obtain⟨y,_,rfl⟩:=List.mem_map.1 hb;rw[zh];exact su _ _) hfar h00
 refine FnL.frame h hpm (fun w1 h1 h2=>?_) (fun v N hv=>?_) w hok hnd hw
 ·have hA:=adK.of (x:=x) (b:=b0) (cV:=cV) (cY:=cY) (cP:=cP) (fun e he=>h1 e (List.mem_append_right _ he));have hR:PlR k lg lc D w1:=fun e he=>h1 e (List.mem_append_left _ he);exact⟨hA.v,hA.y,hA.p,hR.N,h2⟩
 ·obtain⟨g1,c1,b,rfl,r1,r2,rfl⟩:=hv;have hkd:ddK k.ep (D++[(x,b)]) x.d=ddK k.ep D x.d++[ddH k.ep x]:=by rw[kq,if_pos rfl]
  have hko:∀ j,j≠x.d→ddK k.ep (D++[(x,b)]) j=ddK k.ep D j:=fun j hj=>by rw[kq,if_neg (fun e=>hj e.symm),List.append_nil]
  have hl1:(ddK k.ep (D++[(x,b)]) x.d).length=(ddK k.ep D x.d).length+1:=by rw[hkd];simp
  refine⟨_,?_,rfl,b,(fun j=>if j=x.d then g1 else lg j),(fun j=>if j=x.d then c1 else lc j),rfl,?_⟩
  ·have hV:lsV (fun j=>if j=x.d then g1 else lg j) (fun j=>if j=x.d then c1 else lc j) (ddK k.ep (D++[(x,b)]))=aaA (lsV lg lc (ddK k.ep D)) x.d (.slice (some ⟨g1,0,none⟩) ((ddK k.ep D x.d).length+1) c1):=by
    funext j;unfold aaA lsV
    by_cases e:j=x.d
    ·subst e;dsimp only;rw[if_pos rfl,if_pos rfl,if_pos rfl,hl1];rfl
    ·dsimp only;rw[if_neg e,if_neg e,if_neg e,hko j e]
   have hM:ddM k.ep (D++[(x,b)])=ddM k.ep D++[(hsV (ddH k.ep x),ddV k.ep x b)]:=by unfold ddM;rw[List.map_append];rfl
   have hE:lsE (fun j=>if j=x.d then g1 else lg j) (fun j=>if j=x.d then c1 else lc j) (ddK k.ep (D++[(x,b)])) x.d=[⟨g1,60,(ddK k.ep D x.d++[ddH k.ep x]).flatMap byC++mkz (c1 - ((ddK k.ep D x.d).length+1)) (byC (List.replicate 32 0))⟩]:=by
    unfold lsE;dsimp only;rw[if_pos rfl,if_pos rfl,vA (by omega),hkd];simp
   have hO:aR (fun j=>if j=x.d then g1 else lg j) (fun j=>if j=x.d then c1 else lc j) (ddK k.ep (D++[(x,b)])) x.d=aR lg lc (ddK k.ep D) x.d:=acG (fun j hj=>⟨if_neg hj,if_neg hj,hko j hj⟩);unfold vT;rw[hV,hM,bW];simp only[List.cons_append,List.append_assoc];refine .cons _ (.cons _ ?_);have hls:=kM (fun j=>if j=x.d then g1 else lg j) (fun j=>if j=x.d then c1 else lc j) (ddK k.ep (D++[(x,b)])) hd8;rw[hE,hO] at hls;refine List.Perm.trans ?_ (.cons _ (List.Perm.append_right _ hls.symm));simp only[List.cons_append,List.append_assoc,List.nil_append];refine List.Perm.trans ?_ (List.Perm.swap _ _ _);refine .cons _ ?_;refine List.Perm.trans List.perm_middle ?_;refine .cons _ ?_;have hz:((ddL x b++(aR lg lc (ddK k.ep D) x.d++ddR D))++ddL x b0).Perm (((aR lg lc (ddK k.ep D) x.d++ddR D)++ddL x b)++ddL x b0):=List.Perm.append_right _ List.perm_append_comm;simpa only[List.append_assoc] using hz
  ·refine⟨fun y hy=>?_,fun y hy=>?_,?_,fun j hj=>?_,hI.n7,by rw[List.length_append];exact hs⟩
   ·rcases List.mem_append.1 hy with hy|hy
    ·exact hI.fit y hy
    ·rw[List.mem_singleton.1 hy];exact hx
   ·rcases List.mem_append.1 hy with hy|hy
    ·exact hI.d1 y hy
    ·rw[List.mem_singleton.1 hy];exact hd
   ·rw[List.map_append,List.nodup_append];refine⟨hI.dist,by simp,fun a ha b hb e=>?_⟩;obtain⟨y,hy,rfl⟩:=List.mem_map.1 ha;have:b=ddH k.ep x:=by simpa using hb
    exact hn y hy (e.trans this)
   ·by_cases e:j=x.d
    ·subst e;rw[hl1,if_pos rfl];exact⟨r1,r2⟩
    ·rw[hko j e] at hj ⊢;rw[if_neg e];exact hI.room j hj
end
end Sx
end
end Go.Proofs.YteibfbjpkjkejaaGreatDoor
