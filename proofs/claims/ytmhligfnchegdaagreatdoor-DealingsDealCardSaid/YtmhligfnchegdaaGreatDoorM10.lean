/- Part 10 of the proof: SxL, SxM, SxN, SxO, SxP, SxQ, Sha -/
import Derived.Test.YtmhligfnchegdaaGreatDoorM09
import Derived.Lib.AppendZeros
import Derived.WalkKit
set_option linter.unusedSimpArgs false
set_option linter.unusedVariables false
namespace Go.Proofs.YtmhligfnchegdaaGreatDoor
open Go Go.RowKit Go.BigFrame
namespace Sx
def byC (l:List Nat):List Value:=l.map fun (b:Nat)=>Value.int .u8 (b:Int)
theorem byC_length (l:List Nat):(byC l).length=l.length:=by simp[byC]
theorem byC_append (l m:List Nat):byC (l++m)=byC l++byC m:=by simp[byC]
theorem byC_get {l:List Nat} {i:Nat} (h:i<l.length):(byC l)[i]?=some (.int .u8 ((l[i]:Nat):Int)):=by simp[byC,h]
theorem byC_one (l:List Nat):(byC l).all Value.oneCell'=true:=by simp[byC,Value.oneCell']
theorem byC_take (l:List Nat) (n:Nat):(byC l).take n=byC (l.take n):=by simp[byC,List.map_take]
theorem byC_drop (l:List Nat) (n:Nat):(byC l).drop n=byC (l.drop n):=by simp[byC,List.map_drop]
def woC (l:List Nat):List Value:=l.map fun (b:Nat)=>Value.int .u64 (b:Int)
theorem woC_length (l:List Nat):(woC l).length=l.length:=by simp[woC]
theorem woC_get {l:List Nat} {i:Nat} (h:i<l.length):(woC l)[i]?=some (.int .u64 ((l[i]:Nat):Int)):=by simp[woC,h]
def strB (s:ByteArray):List Nat:=s.data.toList.map fun b=>b.toNat
section
variable {P:Program} {w0:World} {gs:List Nat} {K:List (Nat × Value)} {L:List Ent}
theorem news_str {st t e size ty:Nat} {s:ByteArray} {x:Operand} [StrT P st] [SlT P t e size] [InT P e .u8] (hx:ev K x=some (.string s)) (hn:s.size<9223372036854775808) :
    News1 P w0 gs K L (.convert st t x) ty (fun s'=>.slice (some ⟨s' 0,0,none⟩) s.size (s' 1)) (fun s'=>[⟨s' 0,0,byC (strB s)++List.replicate (s' 1 - s.size) (Value.int .u8 0)⟩]) (fun s'=>s.size≤s' 1∧s' 1<9223372036854775808):=by
  intro a w hk hme o hop hty
  have hu:∀ w,(underlying st).run P w=.ok .string w:=fun w=>by simp[underlying,StrT.under (P:=P) (t:=st)]
  have hu2:∀ w,(underlying t).run P w=.ok (.slice e) w:=fun w=>by simp[underlying,SlT.under (P:=P) (t:=t)]
  have hu3:∀ w,(underlying e).run P w=.ok (.int .u8) w:=fun w=>by simp[underlying,InT.under (P:=P) (t:=e)]
  generalize hG:s.size+w.tape w.drawn (.appendCap s.size 0 e)%(2 ^ 63 - s.size)=G
  have hG1:s.size≤G:=by omega
  have hG2:G<9223372036854775808:=by
    have:=Nat.mod_lt (w.tape w.drawn (.appendCap s.size 0 e)) (show 0<2 ^ 63 - s.size by omega)
    omega
  have hch:(choose (.appendCap s.size 0 e)).run P w=.ok G w.drew:=by
    rw[run_choose]
    simp only[Question.forced,Bool.false_eq_true,if_false,Question.cut,hG];rfl
  have hcs:(s.data.map fun b=>Value.int .u8 (b.toNat:Int))++Array.replicate (G - s.size) (Value.int .u8 0)=(byC (strB s)++List.replicate (G - s.size) (Value.int .u8 0)).toArray:=by
    apply Array.ext'
    simp[byC,strB]
  generalize hC:(byC (strB s)++List.replicate (G - s.size) (Value.int .u8 0):List Value)=C at *
  have hnew:=heap_alloc_new w.drew (.cells C.toArray e)
  have hrun:(execOp a.eval o).run P w=.ok (.value (.slice (some ⟨w.heap.size,0,none⟩) s.size G)) ((w.drew.alloc (.cells C.toArray e)).freeze ⟨w.heap.size,C.length,none⟩ 1):=by
    simp only[execOp,hop,hk.eval hx,convert,Sem.run_bind,hu,hu2,hu3,Result.andThen_ok,Conv.stringToBytes,hch,hcs,newRow,run_newObj,Sem.run_pure,markStringish,run_shape]
    have hs:(w.drew.alloc (.cells C.toArray e)).shape? w.heap.size=some (e,C.length):=by
      have h1:(w.drew.alloc (.cells C.toArray e)).heap[w.heap.size]?=some (.cells C.toArray e):=hnew
      unfold World.shape?
      rw[h1]
      simp
    have:({ w.drew with heap:=w.drew.heap.push (Obj.cells C.toArray e) }:World)=w.drew.alloc (.cells C.toArray e):=rfl
    simp only[this]
    have hd:w.drew.heap.size=w.heap.size:=rfl
    rw[hd,hs]
    rfl
  refine⟨fun j=>if j=0 then w.heap.size else G,_,hrun,⟨hG1,hG2⟩,?_,?_⟩
  · have hb:Below w.heap.size w (w.drew.alloc (.cells C.toArray e)):=((Below.refl _ _).drew).alloc (Nat.le_refl _) _
    refine hb.trans ⟨rfl,rfl,rfl,by simp[World.freeze],fun k hk=>?_⟩
    simp only[World.freeze]
    rw[if_neg (by omega)]
    simp only[Array.getElem?_modify]
    rw[if_neg (by omega)]
  · have hx:((w.drew.alloc (.cells C.toArray e)).freeze ⟨w.heap.size,C.length,none⟩ 1).heap[w.heap.size]?=some (.cells C.toArray e (C.length,C.length+1)):=by
      have h1:(w.drew.alloc (.cells C.toArray e)).heap[w.heap.size]?=some (.cells C.toArray e):=hnew
      simp only[World.freeze]
      rw[if_neg (by omega)]
      rw[Array.getElem?_modify,if_pos rfl,h1]
      simp
    simp only[if_true,Nat.one_ne_zero,if_false,hC]
    refine⟨fun ee he=>?_,fun ee he=>?_,by simp⟩
    · have:ee=⟨w.heap.size,0,C⟩:=by simpa using he
      subst this
      exact⟨e,_,hx,fun h=>absurd rfl h⟩
    · have:ee=⟨w.heap.size,0,C⟩:=by simpa using he
      subst this
      exact Nat.le_refl _
def FnM (P:Program) (f:FuncId) (args:List Value) (g t:Nat) (cs cs' : List Value) (R:World→Prop) (v:Value):Prop :=
  ∀ w,(⟨g,t,cs⟩ : Ent).ok w→R w→Calls P f args.toArray w (fun e w'=>e=.returned v∧Mod [g] w w'∧(⟨g,t,cs'⟩ : Ent).ok w')
def MPost (w:World) (g t:Nat) (cs' : List Value) (v:Value):Ending→World→Prop:=fun e w'=>e=.returned v∧Mod [g] w w'∧(⟨g,t,cs'⟩ : Ent).ok w'
theorem FnM.enter {n:Nat} {f:FuncId} {fn:Func} {c:Code} {args:List Value} {g t:Nat} {cs cs' : List Value} {R:World→Prop} {v:Value} (hf:P.funcs[f]?=some fn) (hb:fn.body=some c) (hn:fn.ntmps=n) (hle:Nat.ble args.length n=true)
    (k:∀ w,R w→WC P w [g] n c (bodyPost P fn (MPost w g t cs' v)) (kin args 0) [⟨g,t,cs⟩]):FnM P f args g t cs cs' R v:=by
  intro w hok hw
  refine calls_of_wp hf hb ?_
  have hle' : args.length≤n:=by simpa using hle
  refine k w hw _ w rfl (by simp[hn];omega) (fun t v hv=>?_) ⟨.refl _ _,by simpa using hok,by simp,by simp⟩
  obtain⟨j,h1,h2⟩:=kin_spec args 0 t v hv
  subst h1
  have hj:j<args.length:=by
    rcases Nat.lt_or_ge j args.length with h|h
    · exact h
    · rw[List.getElem?_eq_none h] at h2;cases h2
  simp only[Nat.zero_add]
  rw[Array.getElem?_append_left (by simpa using hj)]
  simpa using h2
theorem Me.callM {w w' : World} {L' : List Ent} {g t:Nat} {cs cs' : List Value} (h:Me w0 gs L w) (hr:Rp L g t cs cs' L') (hm:Mod [g] w w') (hok:(⟨g,t,cs'⟩ : Ent).ok w') (ht:t≠0):Me w0 gs L' w' :=
  h.write hr hm.os hm.tape hm.output hm.size (fun k hk hne=>hm.block k hk (by simpa using hne)) (hok.row ht)
section
variable {n:Nat} {ops:List Oper} {Q:Exit→Act→World→Prop} {rest:List Oper} {d:Nat} {op:Op} {ty:TypeId} {pos:String} {after:Array Edge} {gd:Option (Nat × Bool)}
theorem WO.callM {f:FuncId} [Cal P f] {xs:Array Operand} {ats:Array TypeId} {as:List Value} {g t:Nat} {cs cs' : List Value} {L' : List Ent} {R:World→Prop} {v:Value} (ha:evs K xs.toList=some as) (hc:FnM P f as g t cs cs' R v) (hrp:Rp L g t cs cs' L') (hR:∀ w,Mr w0 gs L w→R w) (ht:t≠0)
    (k:WO P w0 gs n ops Q ((d,v)::K) L' rest) (hd:Nat.blt d n=true) (hw:wk ops K gd=some true) :
    WO P w0 gs n ops Q K L (⟨some d,.call { callee:=.value (.func f),args:=xs,argTypes:=ats },ty,pos,after,gd⟩::rest):=by
  intro a w hdf hsz hk hme
  refine wpList_step fun F hF=>?_
  rw[if_pos (wk_spec (o:=⟨some d,.call { callee:=.value (.func f),args:=xs,argTypes:=ats },ty,pos,after,gd⟩) hk hw)]
  have hd' : d<n:=by simpa [Nat.blt_eq] using hd
  unfold Oper.wp
  have h1:=run_call (P:=P) (f:=f) (ty:=ty) (pos:=pos) (after:=after) (gd:=gd) (dst:=some d) (ats:=ats) (x:=.func f) (w:=w) (fs:=[]) (cs:=[]) hk rfl ha
  simp only[List.nil_append,List.append_nil] at h1
  rw[h1,Oper.upon_enter]
  refine (hc w (hme.ok _ hrp.mem) (hR w hme.mr)).mono ?_
  rintro e w' ⟨rfl,hm,hok⟩
  exact hF _ _ (k _ _ (by rw[put_defers];exact hdf) (by rw[put_size];exact hsz) (hk.put (by omega) v) (hme.callM hrp hm hok ht))
theorem WX.retM_of {fn:Func} {g t:Nat} {cs' : List Value} {v:Value} (hr:∀ a w,Kn K a→Me w0 [g] L w→(results fn a.tmps).run P w=.ok v w) (hN:Hs L g t cs'):WX w0 [g] n .ret (bodyPost P fn (MPost w0 g t cs' v)) K L:=fun a w h1 _ h3 h4 =>
  ⟨h1,v,hr a w h3 h4,rfl,h4.mod,h4.ok _ hN.mem⟩
theorem WX.retM_ofN {fn:Func} {g t:Nat} {cs' : List Value} {v:Value} (hr:∀ a w,Kn K a→Me w0 [g] L w→(results fn a.tmps).run P w=.ok v w) (hN:Hs L g t cs'):WX w0 [g] n .normal (bodyPost P fn (MPost w0 g t cs' v)) K L:=fun a w h1 _ h3 h4 =>
  ⟨h1,v,hr a w h3 h4,rfl,h4.mod,h4.ok _ hN.mem⟩
theorem res0 {fn:Func} {g:Nat} (hfn:fn.results=#[]) (a:Act) (w:World) (_:Kn K a) (_:Me w0 [g] L w):(results fn a.tmps).run P w=.ok (.tuple #[]) w:=by
  rw[results_eq,hfn];simp
theorem res1 {fn:Func} {g:Nat} {r:ResultVar} {v:Value} (hfn:fn.results=#[r]) (hr:Rv P w0 [g] K L r v) (a:Act) (w:World) (hk:Kn K a) (hme:Me w0 [g] L w):(results fn a.tmps).run P w=.ok v w:=by
  have h:=mapM1 (hr a w hk hme)
  rw[results_eq,hfn,Sem.run_bind,h];rfl
end
end
end Sx
end Go.Proofs.YtmhligfnchegdaaGreatDoor
namespace Go.Proofs.YtmhligfnchegdaaGreatDoor
open Go Go.RowKit Go.BigFrame
namespace Sx
def Rd (v:Value) (n:Nat) (xs:List Value) (w:World):Prop :=
  ∃ p c,v=.slice p n c∧((p=none∧n=0∧xs=[])∨∃ b o,p=some ⟨b,o,none⟩∧Seg w b o xs)
theorem Rd.rds {v:Value} {n:Nat} {xs:List Value} {w0:World} {L:List Ent} (h:Rd v n xs w0):Rds w0 [] L v n xs:=by
  obtain⟨p,c,rfl,h|⟨b,o,rfl,hs⟩⟩:=h
  · exact⟨p,c,rfl,.inl h⟩
  · exact⟨_,c,rfl,.inr ⟨b,o,rfl,fun w hm i x hx=>hs.mod hm.mod (by simp) i x hx⟩⟩
theorem Rds.rd {v:Value} {n:Nat} {xs:List Value} {w0 w:World} {gs:List Nat} {L:List Ent} (h:Rds w0 gs L v n xs) (hm:Mr w0 gs L w):Rd v n xs w:=by
  obtain⟨p,c,rfl,h|⟨b,o,rfl,hs⟩⟩:=h
  · exact⟨p,c,rfl,.inl h⟩
  · exact⟨_,c,rfl,.inr ⟨b,o,rfl,fun i x hx=>hs w hm i x hx⟩⟩
theorem Rd.of {b o n c:Nat} {xs:List Value} {w:World} (h:Seg w b o xs):Rd (.slice (some ⟨b,o,none⟩) n c) n xs w:=⟨_,c,rfl,.inr ⟨b,o,rfl,h⟩⟩
theorem Rd.nil {c:Nat} {w:World}:Rd (.slice none 0 c) 0 [] w:=⟨none,c,rfl,.inl ⟨rfl,rfl,rfl⟩⟩
theorem Seg.sub {w:World} {b off:Nat} {cs vs:List Value} {k m:Nat} (h:Seg w b off cs) (hc:cut cs k m=vs):Seg w b (off+k) vs:=fun i v hv=>by
  rw[Nat.add_assoc];exact h _ _ (cut_get hc hv)
def be (wd x:Nat):List Nat:=(List.range wd).map fun j=>x / 2 ^ (8*(wd - 1 - j))%256
theorem be_length (wd x:Nat):(be wd x).length=wd:=by simp[be]
theorem be_get {wd x j:Nat} (h:j<wd):(be wd x)[j]?=some (x / 2 ^ (8*(wd - 1 - j))%256):=by simp[be,h]
def beL (wd:Nat) (W:List Nat):List Nat:=W.flatMap (be wd)
theorem beL_length (wd:Nat) (W:List Nat):(beL wd W).length=W.length*wd:=by
  induction W with
  | nil=>simp[beL]
  | cons x W ih =>
    have:beL wd (x::W)=be wd x++beL wd W:=by simp[beL]
    rw[this,List.length_append,be_length,ih,List.length_cons,Nat.add_mul,Nat.one_mul,Nat.add_comm]
theorem beL_get {wd j:Nat} (h:j<wd):∀ {W:List Nat} {i:Nat} (hi:i<W.length),(beL wd W)[i*wd+j]?=some (W[i] / 2 ^ (8*(wd - 1 - j))%256)
  | x::W,0,_=>by
    have:beL wd (x::W)=be wd x++beL wd W:=by simp[beL]
    rw[this,List.getElem?_append_left (by rw[be_length];omega),Nat.zero_mul,Nat.zero_add,be_get h];rfl
  | x::W,i+1,hi=>by
    have:beL wd (x::W)=be wd x++beL wd W:=by simp[beL]
    rw[this,List.getElem?_append_right (by rw[be_length,Nat.add_mul];omega),be_length,show (i+1)*wd+j - wd=i*wd+j by rw[Nat.add_mul];omega,beL_get h (by simpa using hi)]
    rfl
def pad (T:List Nat) (l:Nat):List Value:=byC (T.take l)++List.replicate (T.length - l) (Value.int .u8 0)
theorem pad_length {T:List Nat} {l:Nat} (h:l≤T.length):(pad T l).length=T.length:=by
  simp only[pad,List.length_append,byC_length,List.length_take,List.length_replicate];omega
theorem pad_full (T:List Nat):pad T T.length=byC T:=by simp[pad]
theorem pad_over {T:List Nat} {l b:Nat} (h:T[l]?=some b):over (pad T l) l [.int .u8 (b:Int)]=pad T (l+1):=by
  have hl:l<T.length:=by
    rcases Nat.lt_or_ge l T.length with h1|h1
    · exact h1
    · rw[List.getElem?_eq_none h1] at h;cases h
  have hb:T[l]=b:=by rw[List.getElem?_eq_getElem hl] at h;exact Option.some.inj h
  have h1:(byC (T.take l)).length=l:=by rw[byC_length,List.length_take];omega
  unfold over pad
  rw[List.take_append_of_le_length (by omega),List.take_of_length_le (by omega),List.drop_append,List.drop_of_length_le (by simp[h1]),h1,List.take_succ_eq_append_getElem hl,byC_append,hb]
  simp only[List.nil_append,List.length_cons,List.length_nil,List.drop_replicate]
  rw[show T.length - l - (l+(0+1) - l)=T.length - (l+1) by omega]
  simp[byC]
theorem pad_copy (B T:List Nat):over (List.replicate (B++T).length (Value.int .u8 0)) 0 (byC B)=pad (B++T) B.length:=by
  unfold over pad
  simp[byC_length,List.drop_replicate]
theorem shr_nat {x e:Nat} {k:IntKind} (he:e≤k.bits):((x:Nat):Int).fdiv (2 ^ min ((e:Int)).toNat k.bits)=((x / 2 ^ e:Nat):Int):=by
  rw[Int.toNat_natCast,Nat.min_eq_left he]
  rw[Int.fdiv_eq_ediv_of_nonneg _ (by exact Int.le_of_lt (Int.pow_pos (by omega)))]
  rw[show ((2:Int) ^ e)=((2 ^ e:Nat):Int) by rw[Int.natCast_pow];rfl]
  rfl
theorem u8_nat (x:Nat):IntKind.u8.wrap ((x:Nat):Int)=((x%256:Nat):Int):=by
  simp only[IntKind.wrap,IntKind.signed,IntKind.bits];simp
section
variable {P:Program} {w0:World} {gs:List Nat} {K:List (Nat × Value)} {L:List Ent}
theorem app_in {st xt ty e bts g t len cap n l:Nat} {z0:Value} {cs xs cs' : List Value} {x y:Operand} {v:Value} {L' : List Ent} [SlT P st e 1] [SlT P xt e 1] [ElT P e bts [z0]] (hx:ev K x=some (.slice (some ⟨g,0,none⟩) len cap)) (hy:ev K y=some v)
    (hr:Rds w0 gs L v n xs) (hxl:xs.length=n) (hroom:len+n≤cap) (h1:xs.all Value.oneCell'=true) (hrp:Rp L g t cs cs' L') (hc:over cs len xs=cs') (hle:len+n≤cs.length) (ht:t≠0) (hl:len+n=l) :
    Both P w0 gs K L (.call { callee:=.builtin .append,args:=#[x,y],argTypes:=#[st,xt] }) ty (.slice (some ⟨g,0,none⟩) l cap) L':=by
  subst hl
  exact app_room (s:=undef) (z:=[z0]) hx hy hr (by simpa using hxl) hroom h1 hrp (by simpa using hc) (by simp;omega) rfl ht
end
def NewS (t n:Nat) (xs:List Value):Value→List Ent→Prop:=fun v N=>∃ g,v=.slice (some ⟨g,0,none⟩) n n∧N=[⟨g,t,xs⟩]
def NewL (t n:Nat) (xs:List Value):Value→List Ent→Prop:=fun v N=>∃ g c r,v=.slice (some ⟨g,0,none⟩) n c∧N=[⟨g,t,xs++r⟩]∧n≤c∧c<9223372036854775808
section
variable {P:Program} {w0:World} {gs:List Nat} {n:Nat} {ops:List Oper} {Q:Exit→Act→World→Prop} {K:List (Nat × Value)} {L:List Ent} {rest:List Oper}
variable {d:Nat} {op:Op} {ty:TypeId} {pos:String} {after:Array Edge} {gd:Option (Nat × Bool)}
theorem WO.acallN {f:FuncId} [Cal P f] {xs:Array Operand} {ats:Array TypeId} {as:List Value} {R:World→Prop} {t m:Nat} {cs:List Value} (ha:evs K xs.toList=some as:=by rfl) (hc:Fn P f as R (NewS t m cs)) (hR:∀ w,Mr w0 gs L w→R w)
    (k:∀ g,WO P w0 gs n ops Q ((d,.slice (some ⟨g,0,none⟩) m m)::K) (⟨g,t,cs⟩::L) rest) (hd:Nat.blt d n=true:=by rfl) (hw:wk ops K gd=some true:=by rfl) :
    WO P w0 gs n ops Q K L (⟨some d,.call { callee:=.value (.func f),args:=xs,argTypes:=ats },ty,pos,after,gd⟩::rest) :=
  WO.calls (fs:=[]) (cs:=[]) hc rfl ha (by simp) hR (fun u N ⟨g,e1,e2⟩=>by subst e1;subst e2;exact k g) hd hw
theorem WO.acallL {f:FuncId} [Cal P f] {xs:Array Operand} {ats:Array TypeId} {as:List Value} {R:World→Prop} {t m:Nat} {cs:List Value} (ha:evs K xs.toList=some as:=by rfl) (hc:Fn P f as R (NewL t m cs)) (hR:∀ w,Mr w0 gs L w→R w)
    (k:∀ g c r,m≤c→c<9223372036854775808→WO P w0 gs n ops Q ((d,.slice (some ⟨g,0,none⟩) m c)::K) (⟨g,t,cs++r⟩::L) rest) (hd:Nat.blt d n=true:=by rfl) (hw:wk ops K gd=some true:=by rfl) :
    WO P w0 gs n ops Q K L (⟨some d,.call { callee:=.value (.func f),args:=xs,argTypes:=ats },ty,pos,after,gd⟩::rest) :=
  WO.calls (fs:=[]) (cs:=[]) hc rfl ha (by simp) hR (fun u N ⟨g,c,r,e1,e2,h1,h2⟩=>by subst e1;subst e2;exact k g c r h1 h2) hd hw
theorem WX.retN {fn:Func} {r:ResultVar} {g t m:Nat} {cs:List Value} {L' : List Ent} (hfn:fn.results=#[r]:=by rfl) (hr:Rv P w0 [] K L r (.slice (some ⟨g,0,none⟩) m m):=by exact rv_tmp rfl) (hN:Pk L g t cs L':=by (repeat (first|exact Pk.here|apply Pk.there))) :
    WX w0 [] n .ret (bodyPost P fn (FnPost w0 (NewS t m cs))) K L:=WX.ret1 hfn hr [⟨g,t,cs⟩] ⟨cs,L',hN,rfl,trivial⟩ ⟨g,rfl,rfl⟩
theorem WX.retL {fn:Func} {r:ResultVar} {g t m c:Nat} {cs z:List Value} {L' : List Ent} (h1:m≤c) (h2:c<9223372036854775808) (hN:Pk L g t (cs++z) L') (hfn:fn.results=#[r]:=by rfl) (hr:Rv P w0 [] K L r (.slice (some ⟨g,0,none⟩) m c):=by exact rv_tmp rfl) :
    WX w0 [] n .ret (bodyPost P fn (FnPost w0 (NewL t m cs))) K L:=WX.ret1 hfn hr [⟨g,t,cs++z⟩] ⟨cs++z,L',hN,rfl,trivial⟩ ⟨g,c,z,rfl,rfl,h1,h2⟩
end
end Sx
end Go.Proofs.YtmhligfnchegdaaGreatDoor
namespace Go.Proofs.YtmhligfnchegdaaGreatDoor
open Go Go.RowKit
namespace Sx
def beV (l:List Nat):Nat:=l.foldl (fun v b=>v*256+b) 0
theorem beV_snoc (l:List Nat) (b:Nat):beV (l++[b])=beV l*256+b:=by simp[beV]
theorem beV_append (l m:List Nat):beV (l++m)=beV l*256 ^ m.length+beV m:=by
  have:∀ (m:List Nat) (v:Nat),m.foldl (fun v b=>v*256+b) v=v*256 ^ m.length+beV m:=by
    intro m
    induction m with
    | nil=>intro v;simp[beV]
    | cons b m ih =>
      intro v
      have h:beV (b::m)=b*256 ^ m.length+beV m:=by
        have:=ih (0*256+b)
        rw[Nat.zero_mul,Nat.zero_add] at this
        simpa [beV] using this
      rw[List.foldl_cons,ih,h,List.length_cons,Nat.pow_succ,Nat.add_mul,Nat.mul_assoc,Nat.mul_comm 256,Nat.add_assoc]
  rw[beV,List.foldl_append,this];rfl
theorem beV_lt {l:List Nat} (h:∀ b∈l,b<256):beV l<256 ^ l.length:=by
  have:∀ (m:List Nat) (v:Nat),(∀ b∈m,b<256)→m.foldl (fun v b=>v*256+b) v<(v+1)*256 ^ m.length:=by
    intro m
    induction m with
    | nil=>intro v _;simp
    | cons b m ih =>
      intro v hm
      have h1:=ih (v*256+b) (fun c hc=>hm c (List.mem_cons_of_mem _ hc))
      have h2:=hm b List.mem_cons_self
      rw[List.foldl_cons,List.length_cons,Nat.pow_succ,Nat.mul_comm (256 ^ m.length),← Nat.mul_assoc]
      exact Nat.lt_of_lt_of_le h1 (Nat.mul_le_mul_right _ (by omega))
  have:=this l 0 h
  simpa [beV] using this
theorem or_byte {v b:Nat} (hv:v<72057594037927936) (hb:b<256):IntKind.u64.wrap (((BitVec.ofInt IntKind.u64.bits ((v*256:Nat):Int) ||| BitVec.ofInt IntKind.u64.bits ((b:Nat):Int)).toNat:Nat):Int)=((v*256+b:Nat):Int):=by
  have h1:(BitVec.ofInt IntKind.u64.bits ((v*256:Nat):Int)).toNat=v*256:=by
    rw[BitVec.ofInt_natCast,BitVec.toNat_ofNat];exact Nat.mod_eq_of_lt (by show v*256<18446744073709551616;omega)
  have h2:(BitVec.ofInt IntKind.u64.bits ((b:Nat):Int)).toNat=b:=by
    rw[BitVec.ofInt_natCast,BitVec.toNat_ofNat];exact Nat.mod_eq_of_lt (by show b<18446744073709551616;omega)
  have h3:v*256 ||| b=v*256+b:=by
    have:=Nat.shiftLeft_add_eq_or_of_lt (i:=8) (show b<2 ^ 8 from hb) v
    rw[Nat.shiftLeft_eq] at this
    exact this.symm
  rw[BitVec.toNat_or,h1,h2,h3]
  exact u64_in (by omega) (by omega)
theorem shl_byte {v:Nat} (hv:v<72057594037927936):IntKind.u64.wrap (((v:Nat):Int)*2 ^ (min (8:Int).toNat IntKind.u64.bits))=((v*256:Nat):Int):=by
  rw[show (2:Int) ^ (min (8:Int).toNat IntKind.u64.bits)=256 from rfl,show ((v:Nat):Int)*256=((v*256:Nat):Int) by rw[Int.natCast_mul];rfl]
  exact u64_in (by omega) (by omega)
theorem wd_byte0 {x m:Nat} (y:Nat) (h:y=x) (hm:m<8):y%18446744073709551616 / 2 ^ (8*m)%256=x / 2 ^ (8*m)%256:=by
  subst h
  match m,hm with
  | 0,_|1,_|2,_|3,_|4,_|5,_|6,_|7,_=>simp only[Nat.reduceMul,Nat.reducePow];omega
theorem be_split (k n x:Nat):be (k+n) x=be k (x / 2 ^ (8*n))++be n x:=by
  unfold be
  rw[List.range_add,List.map_append,List.map_map]
  congr 1
  · refine List.map_congr_left (fun j hj=>?_)
    have hj:j<k:=List.mem_range.1 hj
    rw[Nat.div_div_eq_div_mul,← Nat.pow_add,show 8*n+8*(k - 1 - j)=8*(k+n - 1 - j) by omega]
  · refine List.map_congr_left (fun j hj=>?_)
    show x / 2 ^ (8*(k+n - 1 - (k+j)))%256=_
    rw[show k+n - 1 - (k+j)=n - 1 - j by omega]
theorem be8_wd (y:Nat):be 8 (y%18446744073709551616)=be 8 y:=by
  unfold be
  refine List.map_congr_left (fun j hj=>?_)
  have hj:j<8:=List.mem_range.1 hj
  exact wd_byte0 y rfl (by omega)
theorem beL_num (x:Nat):beL 8 [wd 3 x,wd 2 x,wd 1 x,wd 0 x]=be 32 x:=by
  rw[show 32=8+24 from rfl,be_split 8 24,show 24=8+16 from rfl,be_split 8 16,show 16=8+8 from rfl,be_split 8 8]
  simp only[beL,List.flatMap_cons,List.flatMap_nil,List.append_nil,wd,be8_wd]
theorem beV_words {B:List Nat} (h:B.length=32):val4 (beV ((B.drop 24).take 8)) (beV ((B.drop 16).take 8)) (beV ((B.drop 8).take 8)) (beV ((B.drop 0).take 8))=beV B:=by
  have e:B=B.take 8++((B.drop 8).take 8++((B.drop 16).take 8++(B.drop 24).take 8)):=by
    rw[show B.drop 24=(B.drop 16).drop 8 by rw[List.drop_drop],List.take_of_length_le (l:=(B.drop 16).drop 8) (by simp[h]),List.take_append_drop,show B.drop 16=(B.drop 8).drop 8 by rw[List.drop_drop],List.take_append_drop,List.take_append_drop]
  have h8:((B.drop 8).take 8).length=8:=by simp[h]
  have h16:((B.drop 16).take 8).length=8:=by simp[h]
  have h24:((B.drop 24).take 8).length=8:=by simp[h]
  have:=congrArg beV e
  rw[beV_append,beV_append,beV_append,List.length_append,List.length_append,h8,h16,h24] at this
  rw[this,List.drop_zero]
  simp only[val4,Nat.reducePow,Nat.reduceAdd]
  omega
theorem byte_take {l:List Nat} (h:∀ b∈l,b<256) (n:Nat):∀ b∈l.take n,b<256:=fun b hb=>h b (List.mem_of_mem_take hb)
theorem byte_drop {l:List Nat} (h:∀ b∈l,b<256) (n:Nat):∀ b∈l.drop n,b<256:=fun b hb=>h b (List.mem_of_mem_drop hb)
theorem beV_lt8 {l:List Nat} (h:∀ b∈l,b<256) (n:Nat):beV (l.take 8)<18446744073709551616:=by
  have:=beV_lt (byte_take h 8)
  exact Nat.lt_of_lt_of_le this (by
    have h1:(l.take 8).length≤8:=by rw[List.length_take];omega
    exact Nat.pow_le_pow_right (n:=256) (by omega) h1)
end Sx
end Go.Proofs.YtmhligfnchegdaaGreatDoor
namespace Go.Proofs.YtmhligfnchegdaaGreatDoor
open Go Go.RowKit Go.BigFrame
namespace Sx
section
variable {P:Program} {w0:World} {gs:List Nat} {K:List (Nat × Value)} {L:List Ent}
theorem app_zeros {st xt ty e size bts n:Nat} {z:List Value} {x y:Operand} {k kn:IntKind} [SlT P st e size] [InT P xt kn] [ElT P e bts z] (hx:ev K x=some (.slice none 0 0)) (hy:ev K y=some (.int k (n:Int))) (h0:0<n) (hn:n<9223372036854775808) (hz:0<z.length) (hb:n*bts≤281474976710656) :
    News1 P w0 gs K L (.call { callee:=.builtin .append,args:=#[x,y],argTypes:=#[st,xt] }) ty (fun s=>.slice (some ⟨s 0,0,none⟩) n (s 1)) (fun s=>[⟨s 0,e,mkz n z++mkz (s 1 - n) z⟩]) (fun s=>n≤s 1∧s 1<9223372036854775808):=by
  intro a w hk hme o hop hty
  obtain⟨dst,op,ty',pos,after,guard⟩:=o
  subst hop
  obtain⟨i,h1,h2,h3,v,h4,h5⟩:=ElT.info (P:=P) (e:=e)
  have hr:=Lib.run_append_nil_zeros (P:=P) w st xt ty' e i v k kn (SlT.under (P:=P) (t:=st)) (InT.under (P:=P) (t:=xt)) h1 h4 n h0 (by omega) (by omega) (by rw[h2];exact hb)
  have hge:=grownCap_ge w n 0 e
  have hml:=grownCap_le_maxLen w n 0 e (by simp[maxLen];omega)
  generalize grownCap w n 0 e=G at *
  have hG:G<9223372036854775808:=by unfold maxLen at hml;omega
  have hzc:∀ m,Builtin.zeroCells v.cells m=(mkz m z).toArray:=fun m=>by
    unfold Builtin.zeroCells
    rw[h5,← mkz_eq]
    simp
  have hcs:Builtin.zeroCells v.cells n++Builtin.zeroCells v.cells (G - n)=(mkz n z++mkz (G - n) z).toArray:=by rw[hzc,hzc];simp
  rw[hcs] at hr
  refine⟨fun j=>if j=0 then w.heap.size else G,w.drew.alloc (.cells (mkz n z++mkz (G - n) z).toArray e),?_,⟨hge,hG⟩,((Below.refl _ _).drew).alloc (Nat.le_refl _) _,?_⟩
  · rw[run_builtin hk (as:=[.slice none 0 0,.int k (n:Int)]) (by simp[evs,hx,hy]),builtin_append]
    simp only[Sem.run_bind,hr,Result.andThen_ok,Sem.run_pure]
    simp
  · refine⟨fun ee he=>?_,fun ee he=>?_,by simp⟩
    · have:ee=⟨w.heap.size,e,mkz n z++mkz (G - n) z⟩:=by simpa using he
      subst this
      exact .of (heap_alloc_new w.drew _)
    · have:ee=⟨w.heap.size,e,mkz n z++mkz (G - n) z⟩:=by simpa using he
      subst this
      exact Nat.le_refl _
end
def room (A:List Nat) (m:Nat):List Value:=byC A++List.replicate m (Value.int .u8 0)
theorem room_length (A:List Nat) (m:Nat):(room A m).length=A.length+m:=by simp[room,byC_length]
theorem room_over {A X:List Nat} {m:Nat} (h:X.length≤m):over (room A m) A.length (byC X)=room (A++X) (m - X.length):=by
  unfold over room
  have h1:(byC A).length=A.length:=byC_length A
  rw[List.take_append_of_le_length (by omega),List.take_of_length_le (by omega),List.drop_append,List.drop_of_length_le (by rw[h1,byC_length];omega),byC_append,h1,byC_length,List.drop_replicate]
  rw[show m - (A.length+X.length - A.length)=m - X.length by omega]
  simp
theorem room_zero (n c:Nat) (h:n≤c):mkz n [Value.int .u8 0]++mkz (c - n) [Value.int .u8 0]=room [] c:=by
  rw[mkz_one,mkz_one,List.replicate_append_replicate,show n+(c - n)=c by omega];rfl
end Sx
end Go.Proofs.YtmhligfnchegdaaGreatDoor
namespace Go.Proofs.YtmhligfnchegdaaGreatDoor
open Go Go.RowKit Go.BigFrame
namespace Sx
def cutP (p:Option Addr) (cap l size:Nat):Option Addr:=if cap=l then p else p.map fun a=>a.add (l*size)
section
variable {P:Program} {w0:World} {gs:List Nat} {K:List (Nat × Value)} {L:List Ent}
theorem does_sliceFromR {t elem size ty len cap l:Nat} {p:Option Addr} {k:IntKind} {x y:Operand} [SlT P t elem size] (hx:ev K x=some (.slice p len cap)) (hy:ev K y=some (.int k (l:Int))) (hh:l≤len) :
    Does P w0 gs K L (.slice t x (some y) none none) ty (.slice (cutP p cap l size) (len - l) (cap - l)):=by
  intro a w hk _ oo ho _
  have hu:∀ w,(underlying t).run P w=.ok (.slice elem) w:=fun w=>by simp[underlying,SlT.under (P:=P) (t:=t)]
  have hb:((0:Int)≤(l:Int)∧(l:Int)≤(len:Int)):=by omega
  simp only[execOp,ho,hk.eval hx,Option.map_none,Option.map_some,hk.eval hy,Instr.sliceAt,Sem.run_bind,hu,Result.andThen_ok,Instr.slice,Sem.run_pure,Instr.sliceBounds,Instr.sliceBound,asIntOf,if_pos hb,SlT.size (P:=P) (t:=t),Int.toNat_natCast]
  rfl
theorem does_sliceAFrom {t len elem size g o ty l o' : Nat} {k:IntKind} {x y:Operand} [ArT P t len elem size] (hx:ev K x=some (.pointer (some ⟨g,o,none⟩))) (hy:ev K y=some (.int k (l:Int))) (hl:l<len) (ho' : o+l*size=o') :
    Does P w0 gs K L (.slice t x (some y) none none) ty (.slice (some ⟨g,o',none⟩) (len - l) (len - l)):=by
  intro a w hk _ oo ho _
  subst ho'
  have hu:∀ w,(underlying t).run P w=.ok (.array len elem) w:=fun w=>by simp[underlying,ArT.under (P:=P) (t:=t)]
  have hb:((0:Int)≤(l:Int)∧(l:Int)≤(len:Int)):=by omega
  have hne:¬ len=l:=by omega
  simp only[execOp,ho,hk.eval hx,Option.map_none,Option.map_some,hk.eval hy,Instr.sliceAt,Sem.run_bind,hu,Result.andThen_ok,Instr.sureAddr,Sem.run_pure,Instr.sliceBounds,Instr.sliceBound,asIntOf,if_pos hb,ArT.size (P:=P) (t:=t),Int.toNat_natCast]
  simp[hne,add_mk]
end
def RdN (g:Nat) (v:Value) (n:Nat) (xs:List Value) (w:World):Prop :=
  ∃ p c,v=.slice p n c∧n≤c∧c<9223372036854775808∧xs.length=n∧((p=none∧n=0)∨∃ b o,p=some ⟨b,o,none⟩∧b≠g∧Seg w b o xs)
theorem RdN.rds {g:Nat} {v:Value} {n:Nat} {xs:List Value} {w0:World} {L:List Ent} (h:RdN g v n xs w0):Rds w0 [g] L v n xs:=by
  obtain⟨p,c,rfl,_,_,hl,⟨h1,h2⟩|⟨b,o,rfl,hb,hs⟩⟩:=h
  · exact⟨p,c,rfl,.inl ⟨h1,h2,List.eq_nil_of_length_eq_zero (by omega)⟩⟩
  · exact⟨_,c,rfl,.inr ⟨b,o,rfl,fun w hm i x hx=>hs.mod hm.mod (by simpa using hb) i x hx⟩⟩
theorem RdN.from {g:Nat} {p:Option Addr} {n c l:Nat} {xs:List Value} {w0:World} (h:RdN g (.slice p n c) n xs w0) (hl:l≤n):RdN g (.slice (cutP p c l 1) (n - l) (c - l)) (n - l) (xs.drop l) w0:=by
  obtain⟨p',c',e,h1,h2,h3,h4⟩:=h
  cases e
  refine⟨_,_,rfl,by omega,by omega,by rw[List.length_drop];omega,?_⟩
  rcases h4 with ⟨h5,h6⟩|⟨b,o,h5,hb,hs⟩
  · left
    subst h5
    refine⟨?_,by omega⟩
    unfold cutP;split<;>rfl
  · right
    subst h5
    by_cases hcl:c=l
    · refine⟨b,o,by unfold cutP;rw[if_pos hcl],hb,fun i x hx=>?_⟩
      rw[List.drop_of_length_le (by omega)] at hx
      simp at hx
    · refine⟨b,o+l,by unfold cutP;rw[if_neg hcl];simp[add_mk],hb,fun i x hx=>?_⟩
      rw[List.getElem?_drop] at hx
      rw[Nat.add_assoc]
      exact hs _ x hx
end Sx
end Go.Proofs.YtmhligfnchegdaaGreatDoor
namespace Go.Proofs.YtmhligfnchegdaaGreatDoor
open Go Go.RowKit Go.BigFrame
namespace Sx
theorem Rds.perm {w0:World} {gs:List Nat} {L L1:List Ent} {v:Value} {n:Nat} {xs:List Value} (h:Rds w0 gs L v n xs) (hp:L.Perm L1):Rds w0 gs L1 v n xs:=by
  obtain⟨p,c,rfl,h|⟨b,o,rfl,hr⟩⟩:=h
  · exact⟨p,c,rfl,.inl h⟩
  · exact⟨_,c,rfl,.inr ⟨b,o,rfl,fun w hm=>hr w ⟨hm.mod,fun e he=>hm.ok e (hp.mem_iff.1 he)⟩⟩⟩
theorem over_end {xs r ys:List Value}:over (xs++r) xs.length ys=xs++ys++r.drop ys.length:=by
  unfold over
  rw[List.take_left,List.drop_append,List.drop_of_length_le (by omega),List.nil_append,show xs.length+ys.length - xs.length=ys.length by omega]
section
variable {P:Program} {w0:World} {gs:List Nat} {n:Nat} {ops:List Oper} {Q:Exit→Act→World→Prop} {K:List (Nat × Value)} {L:List Ent} {rest:List Oper}
variable {d:Nat} {ty:TypeId} {pos:String} {after:Array Edge} {gd:Option (Nat × Bool)}
theorem WO.appB {st xt e bts g len cap m l:Nat} {z0:Value} {xs r ys:List Value} {x y:Operand} {v:Value} {L2:List Ent} [SlT P st e 1] [SlT P xt e 1] [ElT P e bts [z0]] (hx:ev K x=some (.slice (some ⟨g,0,none⟩) len cap)) (hy:ev K y=some v)
    (hxl:xs.length=len) (hcap:(xs++r).length=cap) (hp:Pk L g e (xs++r) L2) (hr:Rds w0 gs L v m ys) (hyl:ys.length=m) (h1:ys.all Value.oneCell'=true) (hl:len+m=l) (hlb:l<9223372036854775808) (hc:cap<9223372036854775808) (hnc:l*bts≤140737488355328) (hb:bts≠0) (ht:e≠0)
    (k:∀ g' c' r',(xs++ys++r').length=c'→c' < 9223372036854775808→WO P w0 gs n ops Q ((d,.slice (some ⟨g',0,none⟩) l c')::K) (⟨g',e,xs++ys++r'⟩::L2) rest) (hd:Nat.blt d n=true:=by rfl) (hw:wk ops K gd=some true:=by rfl) :
    WO P w0 gs n ops Q K L (⟨some d,.call { callee:=.builtin .append,args:=#[x,y],argTypes:=#[st,xt] },ty,pos,after,gd⟩::rest):=by
  subst hl
  intro a w hdf hsz hk hme
  have hr1:=hr.perm hp.perm
  have key:WO P w0 gs n ops Q K (⟨g,e,xs++r⟩::L2) (⟨some d,.call { callee:=.builtin .append,args:=#[x,y],argTypes:=#[st,xt] },ty,pos,after,gd⟩::rest):=by
    by_cases hroom:len+m≤cap
    · refine WO.both (app_in (l:=len+m) hx hy hr1 hyl hroom h1 Rp.here (cs':=xs++ys++r.drop m) (by rw[← hxl,← hyl];exact over_end) (by omega) ht rfl) (k g cap (r.drop m) ?_ hc) hd hw
      simp only[List.length_append,List.length_drop] at hcap ⊢
      omega
    · refine WO.news (app_new (z:=[z0]) (n:=m) hx hy (ys:=xs) (Rds.own (m:=len) Hs.here (by unfold cut;rw[List.drop_zero,← hxl,List.take_left])) (by simpa using hxl) hr1 (by simpa using hyl) (by omega) hlb (growslice_fits (by omega) hnc) hb rfl) (fun s hs=>?_) hd hw
      have hk2:=k (s 0) (s 1) (mkz (s 1 - (len+m)) [z0]) (by rw[List.length_append,List.length_append,mkz_length,hxl,hyl];simp;omega) hs.2
      exact fun a w h1 h2 h3 h4=>hk2 a w h1 h2 h3 (h4.sub (by simp))
  exact key a w hdf hsz hk (hme.perm hp.perm)
end
end Sx
end Go.Proofs.YtmhligfnchegdaaGreatDoor
namespace Go.Proofs.YtmhligfnchegdaaGreatDoor
namespace Sha
def rotr (n x:Nat):Nat:=(x / 2 ^ n) ||| (x*2 ^ (32 - n)%4294967296)
def sig0 (x:Nat):Nat:=rotr 7 x ^^^ rotr 18 x ^^^ (x / 8)
def sig1 (x:Nat):Nat:=rotr 17 x ^^^ rotr 19 x ^^^ (x / 1024)
def Sig0 (x:Nat):Nat:=rotr 2 x ^^^ rotr 13 x ^^^ rotr 22 x
def Sig1 (x:Nat):Nat:=rotr 6 x ^^^ rotr 11 x ^^^ rotr 25 x
def ch (e f g:Nat):Nat:=g ^^^ (e &&& (f ^^^ g))
def maj (a b c:Nat):Nat:=(a &&& b) ^^^ (a &&& c) ^^^ (b &&& c)
def K:List Nat:=[
  0x428a2f98,0x71374491,0xb5c0fbcf,0xe9b5dba5,0x3956c25b,0x59f111f1,0x923f82a4,0xab1c5ed5,
  0xd807aa98,0x12835b01,0x243185be,0x550c7dc3,0x72be5d74,0x80deb1fe,0x9bdc06a7,0xc19bf174,
  0xe49b69c1,0xefbe4786,0x0fc19dc6,0x240ca1cc,0x2de92c6f,0x4a7484aa,0x5cb0a9dc,0x76f988da,
  0x983e5152,0xa831c66d,0xb00327c8,0xbf597fc7,0xc6e00bf3,0xd5a79147,0x06ca6351,0x14292967,
  0x27b70a85,0x2e1b2138,0x4d2c6dfc,0x53380d13,0x650a7354,0x766a0abb,0x81c2c92e,0x92722c85,
  0xa2bfe8a1,0xa81a664b,0xc24b8b70,0xc76c51a3,0xd192e819,0xd6990624,0xf40e3585,0x106aa070,
  0x19a4c116,0x1e376c08,0x2748774c,0x34b0bcb5,0x391c0cb3,0x4ed8aa4a,0x5b9cca4f,0x682e6ff3,
  0x748f82ee,0x78a5636f,0x84c87814,0x8cc70208,0x90befffa,0xa4506ceb,0xbef9a3f7,0xc67178f2]
def H0:List Nat:=[0x6a09e667,0xbb67ae85,0x3c6ef372,0xa54ff53a,0x510e527f,0x9b05688c,0x1f83d9ab,0x5be0cd19]
def w16 (b:List Nat) (i:Nat):Nat:=(b.getD (4*i) 0)*16777216+(b.getD (4*i+1) 0)*65536+(b.getD (4*i+2) 0)*256+b.getD (4*i+3) 0
def wnext (w:List Nat) (i:Nat):Nat :=
  (w.getD (i - 16) 0+w.getD (i - 7) 0+sig0 (w.getD (i - 15) 0)+sig1 (w.getD (i - 2) 0))%4294967296
def words (b:List Nat):Nat→List Nat
  | 0=>[]
  | i+1=>words b i++[if i<16 then w16 b i else wnext (words b i) i]
def rnd (s:List Nat) (k w:Nat):List Nat :=
  match s with
  | [a,b,c,d,e,f,g,h] =>
    let t:=(h+Sig1 e+ch e f g+k+w)%4294967296
    [(t+Sig0 a+maj a b c)%4294967296,a,b,c,(d+t)%4294967296,e,f,g]
  | _=>s
def rnds (s w:List Nat):Nat→List Nat
  | 0=>s
  | i+1=>rnd (rnds s w i) (K.getD i 0) (w.getD i 0)
def addW (s t:List Nat):List Nat:=List.zipWith (fun x y=>(x+y)%4294967296) s t
def take (s b:List Nat):List Nat:=addW (rnds s (words b 64) 64) s
def takes (s b:List Nat):Nat→List Nat
  | 0=>s
  | n+1=>take (takes s b n) ((b.drop (64*n)).take 64)
def be8 (n:Nat):List Nat:=[n / 72057594037927936%256,n / 281474976710656%256,n / 1099511627776%256,n / 4294967296%256,n / 16777216%256,n / 65536%256,n / 256%256,n%256]
def pad (n:Nat):Nat:=(119 - n%64)%64
def padded (m:List Nat):List Nat:=m++128::List.replicate (pad m.length) 0++be8 (8*m.length%18446744073709551616)
def outs (s:List Nat):List Nat:=s.flatMap fun x=>[x / 16777216%256,x / 65536%256,x / 256%256,x%256]
def sum (m:List Nat):List Nat:=outs (takes H0 (padded m) ((padded m).length / 64))
example:sum [97,98,99]=[0xba,0x78,0x16,0xbf,0x8f,0x01,0xcf,0xea,0x41,0x41,0x40,0xde,0x5d,0xae,0x22,0x23,0xb0,0x03,0x61,0xa3,0x96,0x17,0x7a,0x9c,0xb4,0x10,0xff,0x61,0xf2,0x00,0x15,0xad]:=by decide +kernel
end Sha
end Go.Proofs.YtmhligfnchegdaaGreatDoor
