/- Lemmas of the proof. -/
import Derived.Test.YtcaicpnepfjcmaaGreatMa
import Derived.Laws.Strings
import Derived.StillTail
set_option linter.all false
namespace Go.Proofs.YtcaicpnepfjcmaaGreat
open Go Go.RowKit
def a0g:= @List.take_of_length_le
def a0j:= @List.length_cons
def a0k:= @Nat.zero_le
def a0p:= @List.mem_append
def a0x:= @List.length_take
def a1d:= @List.mem_map
def a1g:= @Option.map_some
def a1h:= @List.getElem?_append_right
def a1k:= @List.getElem?_append_left
def a1p:= @Prod.mk.injEq
def a1y:= @Int.ediv_nonneg
def a2f:= @List.getElem?_cons_zero
def a2g:= @List.map_cons
def a2l:= @List.getElem?_cons_succ
def a2n:= @List.mem_range
def a2q:= @Int.ediv_le_self
def a2y:= @List.foldl_cons
def a3f:= @Nat.ble_eq_true_of_le
def a3g:= @List.cons_append
def a3h:= @Classical.not_not
def a3n:= @Nat.lt_succ_self
def a3t:= @List.take_succ_cons
def a3u:= @Nat.add_mul
def a4d:= @Int.tdiv_eq_ediv_of_nonneg
def a4r:= @Bool.not_true
def a4s:= @List.take_zero
def a4z:= @List.length_drop
def a5c:= @Bool.false_or
def a5e:= @List.set_cons_succ
def a5k:= @Bool.or_eq_true
def a6g:= @Array.getElem?_eq_some_iff
def a6k:= @List.drop_succ_cons
def a6s:= @List.getElem?_take
def a6x:= @Option.map_none
def a7j:= @Array.getElem?_toList
def a7m:= @Nat.succ_mul
def a7r:= @Decidable.of_not_not
def a7w:= @Int.tmod_eq_emod_of_nonneg
def a8e:= @List.drop_zero
def a8q:= @List.cons.injEq
def a8x:= @Std.Legacy.Range.forIn_eq_forIn_range'
def a9o:= @Array.all_eq_true_iff_forall_mem
def a9p:= @Array.getElem?_setIfInBounds_ne
def a9q:= @Array.getElem_mem
def a9w:= @List.all_map
def b0r:= @Oper.apart_spec
def b1r:= @List.drop_of_length_le
def b1s:= @Bool.or_true
def b1y:= @List.modify_succ_cons
def b2a:= @Nat.zero_mul
def b2i:= @Array.getElem?_range
def b2m:= @Array.getElem_range
def b2n:= @Array.length_toList
def b2o:= @Array.toList_modify
def b2q:= @ByteArray.toList_eq
def b2r:= @Eq.symm
def b3m:= @Array.getElem?_map
/-! ### Traces -/
inductive Sp where
 |skip
 |val (r:AV)
 |new (r:AV) (b:Nat) (cs:List AV)
 |sto (b:Nat) (cs:List AV)
 |cal (r:AV) (b k o:Nat) (cs:List Lf)
 |ld (r:AV) (b:Nat)
 |lv (r:AV) (b:Nat)
def Sp.isSto:Sp->Bool
 | .sto _ _=>true
 |_=>false
def Sp.eff:Sp->Option (Nat×HB)
 | .new _ b cs=>some (b,.live cs)
 | .sto b cs=>some (b,.live cs)
 | .cal _ b k o cs=>some (b,.hot k o cs)
 |_=>none
def R3:Op->Bool
 | .box .. =>true
 | .alloc .. =>true
 | .buildSlice .. =>true
 |_=>false
def K8:Op->Bool
 | .store .. =>true
 |_=>false
def M4:Op->Bool
 | .call ⟨.builtin _,_,_⟩=>false
 | .call _=>true
 |_=>false
def Sp.res:Sp->AV
 | .ld r _=>r
 | .lv r _=>r
 | .cal r _ _ _ _=>r
 | .sto _ _=>.val undef
 | .skip=>.val undef
 | .val r=>r
 | .new r _ _=>r
def Sp.heap:Sp->AH->AH
 | .new _ b cs,H=>H.put b (.live cs)
 | .sto b cs,H=>H.put b (.live cs)
 | .cal _ b k o cs,H=>H.put b (.hot k o cs)
 |_,H=>H
def evT(tm:Tm):Operand->Option AV
 | .tmp t=>tm.get t
 | .const v=>some (AV.cst v)
 | .func f=>some (.fn (.func f) [] [])
 | .global _=>none
def C0:Option Nat->AH->Nat->HB
 |none,H,b=>H.at b
 |some n,H,b=>match Nat.blt b n with|true=>H.at b|false=>.free
theorem Adh{m:Option Nat}{H:AH}{b:Nat}{cs:List AV}(h:C0 m H b=.live cs):H.at b=.live cs:=by
 cases m with
 |none=>exact h
 |some n=>
  simp only[C0]at h
  split at h
  ·exact h
  ·cases h
def Bb(ops:Array Oper)(o:Oper)(tm:Tm):Option Bool:=
 match o.guard with
 |none=>some true
 |some (j,pol)=>match(ops[j]?).bind (·.dst)with
  |none=>none
  |some g=>match tm.get g with
   |some (.lf (.val (.bool c)))=>some (c==pol)
   |some (.lf (.val (.tuple _)))=>some false
   |_=>none
def Ahk(P:Program)(o:Oper)(ev:Operand->Option AV)(b:Nat)(cells cs:List AV):Prop:=
 ∀(E:Env)(tm:Tm)(H:AH)(a:Act)(w:World)(ρ:Pl)(K:Act->World->Prop)(Q:Exit->Act->World->Prop),RelSt E ⟨tm,H⟩ a w ρ->(∀x∈o.op.operands,∀y,ev x=some y->evT tm x=some y)->H.at b=.live cells->
  (∀w',RelSt E ⟨tm,H.put b (.live cs)⟩ a w' ρ->K (a.put o.dst undef) w')->o.wp P a w K Q
def Ahj(P:Program)(o:Oper)(ev:Operand->Option AV)(b:Nat)(x y:HB)(r:AV):Prop:=
 ∀(E:Env)(tm:Tm)(H:AH)(a:Act)(w:World)(ρ:Pl)(K:Act->World->Prop)(Q:Exit->Act->World->Prop),RelSt E ⟨tm,H⟩ a w ρ->(∀x∈o.op.operands,∀y,ev x=some y->evT tm x=some y)->H.at b=x->
  (∀w' v,RelSt E ⟨tm,H.put b y⟩ a w' ρ->RelV w' E.L ρ r v->K (a.put o.dst v) w')->o.wp P a w K Q
def Afi(o:Op):Bool:=R3 o||K8 o||M4 o
def A0m(ops:Array Oper)(d:Nat):Bool:=(List.range ops.size).all fun j=>match ops[j]? with
 |some y=> !(y.dst==some d)||(List.range ops.size).all fun i=>match ops[i]? with
  |some x=> !Afi x.op||(match Nat.blt i j with|true=>((Region.before ops).getD j 0).testBit i|false=>(match Nat.blt j i with|true=>((Region.before ops).getD i 0).testBit j|false=>true))
  |none=>true
 |none=>true
def Ae3(ops:Array Oper):Bool:=(List.range ops.size).all fun j=>match ops[j]? with|some y=> !R3 y.op|none=>true
def V7(P:Program)(n0:Nat)(ops:Array Oper)(o:Oper)(tm:Tm)(H:AH):Sp->Prop
 | .skip=>Bb ops o tm=some false
 | .val r=>Bb ops o tm=some true/\OpV P o (evT tm) (C0 (some n0) H) r none
 | .new r b cs=>Bb ops o tm=some true/\OpV P o (evT tm) (C0 (some n0) H) r (some (b,cs))/\H.at b=.free/\n0<=b/\R3 o.op=true
 | .sto b cs=>Bb ops o tm=some true/\(∃cells,H.at b=.live cells/\Ahk P o (evT tm) b cells cs)/\n0<=b/\K8 o.op=true
 | .ld r b=>Bb ops o tm=some true/\(∃cells,H.at b=.live cells/\OpV P o (evT tm) (fun b'=>if b'=b then .live cells else .free) r none)/\∃d,o.dst=some d/\A0m ops d=true
 | .lv r b=>Bb ops o tm=some true/\(∃cells,H.at b=.live cells)/\(∀cells,OpV P o (evT tm) (fun b'=>if b'=b then .live cells else .free) r none)/\Ae3 ops=true
 | .cal r b k o' cs=>Bb ops o tm=some true/\(∃k1 o1 cs1,H.at b=.hot k1 o1 cs1/\Ahj P o (evT tm) b (.hot k1 o1 cs1) (.hot k o' cs) r)/\b<n0/\M4 o.op=true
def Okt(P:Program)(N n0:Nat)(ops:Array Oper):List Oper->List Sp->Tm->AH->Prop
 |[],[],_,_=>True
 |o::l,s::ss,tm,H=>(match o.dst with
  |some d=>d<N/\s.isSto=false/\Okt P N n0 ops l ss ((d,s.res)::tm) (s.heap H)
  |none=>s.isSto=true/\Okt P N n0 ops l ss tm (s.heap H))/\V7 P n0 ops o tm H s
 |_,_,_,_=>False
def N0:List Oper->List Sp->Tm->Tm
 |o::l,s::ss,tm=>N0 l ss (match o.dst with|some d=>(d,s.res)::tm|none=>tm)
 |_,_,tm=>tm
def Qo:List Sp->AH->AH
 |s::ss,H=>Qo ss (s.heap H)
 |[],H=>H
def Aj6(m:Option Nat)(P:Program)(N:Nat)(ops:Array Oper)(l:List Oper)(tm:Tm)(H:AH)(K:Tm->AH->Prop):Prop:=
 match m with
 |none=>RegL P N ops l ⟨tm,H⟩ (fun st=>K st.tm st.H)
 |some n0=>∃ss,Okt P N n0 ops l ss tm H/\K (N0 l ss tm) (Qo ss H)
structure Reg(m:Option Nat)(P:Program)(N:Nat)(ops:Array Oper)(l:List Oper)(tm:Tm)(H:AH)(K:Tm->AH->Prop):Prop where
 out:Aj6 m P N ops l tm H K
section
variable {P:Program}{N:Nat}{ops:Array Oper}{m:Option Nat}{K:Tm->AH->Prop}{tm:Tm}{H:AH}{rest:List Oper}{op:Op}{ty:TypeId}{pos:String}{af:Array Edge}{d:Nat}
theorem p6l{id:Nat}{l:List Oper}{Q:Exit->St->Prop}(h:Reg none P N l.toArray l tm H (fun tm H=>Q .normal ⟨tm,H⟩)):T P N (.region id l.toArray false) ⟨tm,H⟩ Q:=T.region h.out
theorem p5r{id:Nat}{l:List Oper}{y:Code}{Q:Exit->St->Prop}(h:Reg none P N l.toArray l tm H (fun tm H=>T P N y ⟨tm,H⟩ Q)):T P N (.seq (.region id l.toArray false) y) ⟨tm,H⟩ Q:=T.seq (T.region h.out)
theorem Am(x:Operand):St.ev ⟨tm,H⟩ x=evT tm x:=by cases x<;>rfl
theorem S.nil(h:K tm H):Reg m P N ops [] tm H K:=by
 refine⟨?_⟩
 cases m with
 |none=>exact RegL.nil h
 |some n=>exact⟨[],trivial,h⟩
theorem OpV.weak{o:Oper}{ev ev':Operand->Option AV}{Hf Hf':Nat->HB}{r:AV}{nw:Option (Nat×List AV)}(h:OpV P o ev Hf r nw)(h1:∀x y,ev x=some y->ev' x=some y)(h2:∀b cs,Hf b=.live cs->Hf' b=.live cs):OpV P o ev' Hf' r nw:=
 fun E st a w ρ K Q hr he hH hn hK=>h E st a w ρ K Q hr (fun x hx y hy=>he x hx y (h1 x y hy)) (fun b cs hb=>hH b cs (h2 b cs hb)) hn hK
theorem S.val{r:AV}(ho:OpV P ⟨some d,op,ty,pos,af,none⟩ (evT tm) (C0 m H) r none)(hN:LN d N)(h:Reg m P N ops rest ((d,r)::tm) H K):Reg m P N ops (⟨some d,op,ty,pos,af,none⟩::rest) tm H K:=by
 refine⟨?_⟩
 replace h:=h.out
 cases m with
 |none=>exact RegL.val (ho.weak (fun x y hx=>by rw[Am];exact hx) (fun b cs hb=>hb)) rfl rfl hN h
 |some n=>
  obtain⟨ss,h1,h2⟩:=h
  exact⟨.val r::ss,⟨⟨a0c hN,rfl,h1⟩,rfl,ho⟩,h2⟩
theorem p2y(H:AH):H.at H.length=.free:=by simp[AH.at]
def AH.nextId:AH->Option Nat
 |[]=>some 0
 |[_]=>some 1
 |[_,_]=>some 2
 |[_,_,_]=>some 3
 |[_,_,_,_]=>some 4
 |[_,_,_,_,_]=>some 5
 |[_,_,_,_,_,_]=>some 6
 |[_,_,_,_,_,_,_]=>some 7
 |[_,_,_,_,_,_,_,_]=>some 8
 |[_,_,_,_,_,_,_,_,_]=>some 9
 |[_,_,_,_,_,_,_,_,_,_]=>some 10
 |[_,_,_,_,_,_,_,_,_,_,_]=>some 11
 |[_,_,_,_,_,_,_,_,_,_,_,_]=>some 12
 |[_,_,_,_,_,_,_,_,_,_,_,_,_]=>some 13
 |[_,_,_,_,_,_,_,_,_,_,_,_,_,_]=>some 14
 |[_,_,_,_,_,_,_,_,_,_,_,_,_,_,_]=>some 15
 |[_,_,_,_,_,_,_,_,_,_,_,_,_,_,_,_]=>some 16
 |[_,_,_,_,_,_,_,_,_,_,_,_,_,_,_,_,_]=>some 17
 |[_,_,_,_,_,_,_,_,_,_,_,_,_,_,_,_,_,_]=>some 18
 |[_,_,_,_,_,_,_,_,_,_,_,_,_,_,_,_,_,_,_]=>some 19
 |[_,_,_,_,_,_,_,_,_,_,_,_,_,_,_,_,_,_,_,_]=>some 20
 |[_,_,_,_,_,_,_,_,_,_,_,_,_,_,_,_,_,_,_,_,_]=>some 21
 |[_,_,_,_,_,_,_,_,_,_,_,_,_,_,_,_,_,_,_,_,_,_]=>some 22
 |[_,_,_,_,_,_,_,_,_,_,_,_,_,_,_,_,_,_,_,_,_,_,_]=>some 23
 |_=>none
theorem Kk{H:AH}{b:Nat}(h:H.nextId=some b):H.length=b:=by
 unfold AH.nextId at h
 split at h<;>cases h<;>rfl
def Vz:Option Nat->Nat->Bool
 |none,_=>true
 |some n,b=>Nat.ble n b
theorem S.new{r:AV}{cs:List AV}{b:Nat}(hmk:R3 op=true)(hb':H.nextId=some b)(hm:Vz m b=true)(ho:OpV P ⟨some d,op,ty,pos,af,none⟩ (evT tm) (C0 m H) r (some (b,cs)))(hN:LN d N)(h:Reg m P N ops rest ((d,r)::tm) (H.put b (.live cs)) K):Reg m P N ops (⟨some d,op,ty,pos,af,none⟩::rest) tm H K:=by
 have hb:=Kk hb'
 subst hb
 refine⟨?_⟩
 replace h:=h.out
 cases m with
 |none=>exact RegL.new (ho.weak (fun x y hx=>by rw[Am];exact hx) (fun b cs hb=>hb)) rfl rfl hN h
 |some n=>
  obtain⟨ss,h1,h2⟩:=h
  exact⟨.new r _ cs::ss,⟨⟨a0c hN,rfl,h1⟩,rfl,ho,p2y H,a0c hm,hmk⟩,h2⟩
theorem X4{E:Env}{st:St}{a:Act}{w:World}{ρ:Pl}(hr:RelSt E st a w ρ){j g:Nat}{v:Value}(hj:(ops[j]?).bind (·.dst)=some g)(hc:st.tm.get g=some (.val v)):yielded ops a.tmps j=(fun| .bool c=>some c|_=>none:Value->Option Bool) v:=by
 obtain⟨h3,h4⟩:=hr.tm g _ hc
 have h5:=h4.val_eq
 rw[a0r]at h5
 have hs:g<a.tmps.size:=by rw[hr.size];exact h3
 rw[a2e hs]at h5
 have hv:a.tmps[g]?=some v:=by rw[a2e hs];exact congrArg some h5
 unfold yielded
 rw[hj]
 simp only[a1v,hv]
 cases v<;>rfl
theorem Ck{E:Env}{a:Act}{w:World}{ρ:Pl}{o:Oper}(hr:RelSt E ⟨tm,H⟩ a w ρ){b:Bool}(h:Bb ops o tm=some b):Region.wanted o (yielded ops a.tmps)=b:=by
 unfold Bb at h
 unfold Region.wanted
 split at h
 ·rename_i hg;rw[hg];simpa using h
 ·rename_i j pol hg
  rw[hg]
  split at h
  ·cases h
  ·rename_i g hj
   split at h
   ·rename_i c hc
    simp only[]
    rw[X4 (ops:=ops) hr hj hc]
    simp only[a0h]at h
    subst h
    cases c<;>cases pol<;>rfl
   ·rename_i vs hc
    simp only[]
    rw[X4 (ops:=ops) hr hj hc]
    simp only[a0h]at h
    subst h
    rfl
   ·cases h
theorem RegL.skip{o:Oper}{st:St}{K:St->Prop}(hg:Bb ops o st.tm=some false)(hd:o.dst=some d)(hN:d<N)(h:RegL P N ops rest {st with tm:=(d,.val undef)::st.tm} K):RegL P N ops (o::rest) st K:=fun E a w ρ hE hr=>by
 have hw:=Ck (ops:=ops) (tm:=st.tm) (H:=st.H) hr hg
 unfold wpList
 rw[if_neg (by simp[hw]),hd]
 exact h E _ w ρ hE (hr.put (by rw[hE];exact hN) (Ab _))
theorem RegL.run{o:Oper}{st:St}{K:St->Prop}(hg:Bb ops o st.tm=some true)(h:RegL P N ops ({o with guard:=none}::rest) st K):RegL P N ops (o::rest) st K:=fun E a w ρ hE hr=>by
 have hw:=Ck (ops:=ops) (tm:=st.tm) (H:=st.H) hr hg
 have:=h E a w ρ hE hr
 unfold wpList at this⊢
 rw[if_pos (by simp[Region.wanted])]at this
 rw[if_pos hw]
 exact this
theorem S.skip{g:Nat×Bool}(hg:Bb ops ⟨some d,op,ty,pos,af,some g⟩ tm=some false)(hN:LN d N)(h:Reg m P N ops rest ((d,.val undef)::tm) H K):Reg m P N ops (⟨some d,op,ty,pos,af,some g⟩::rest) tm H K:=by
 refine⟨?_⟩
 replace h:=h.out
 cases m with
 |none=>exact RegL.skip (st:=⟨tm,H⟩) hg rfl (a0c hN) h
 |some n=>
  obtain⟨ss,h1,h2⟩:=h
  exact⟨.skip::ss,⟨⟨a0c hN,rfl,h1⟩,hg⟩,h2⟩
theorem S.run{g:Nat×Bool}(hg:Bb ops ⟨some d,op,ty,pos,af,some g⟩ tm=some true)(h:Reg m P N ops (⟨some d,op,ty,pos,af,none⟩::rest) tm H K):Reg m P N ops (⟨some d,op,ty,pos,af,some g⟩::rest) tm H K:=by
 refine⟨?_⟩
 replace h:=h.out
 cases m with
 |none=>exact RegL.run (st:=⟨tm,H⟩) hg h
 |some n=>
  obtain⟨ss,h1,h2⟩:=h
  cases ss with
  |nil=>exact h1.elim
  |cons s ss=>
   obtain⟨h3,h4⟩:=h1
   refine⟨s::ss,⟨h3,?_⟩,h2⟩
   cases s with
   |skip=>simp[V7,Bb]at h4
   |val r=>exact⟨hg,h4.2⟩
   |new r b cs=>exact⟨hg,h4.2⟩
   |sto b cs=>exact⟨hg,h4.2⟩
   |cal r b k o cs=>exact⟨hg,h4.2⟩
   |ld r b=>exact⟨hg,h4.2⟩
   |lv r b=>exact⟨hg,h4.2⟩
/-! ### The steps -/
variable {x y z:Operand}{t u e:TypeId}
theorem S.move{r:AV}(hx:evT tm x=some r)(hN:LN d N)(h:Reg m P N ops rest ((d,r)::tm) H K):Reg m P N ops (⟨some d,.move x,ty,pos,af,none⟩::rest) tm H K:=S.val (OpV.move rfl hx) hN h
theorem S.assign{r:AV}(hx:evT tm x=some r)(hN:LN d N)(h:Reg m P N ops rest ((d,r)::tm) H K):Reg m P N ops (⟨some d,.assign x,ty,pos,af,none⟩::rest) tm H K:=S.val (OpV.assign rfl hx) hN h
theorem S.pickT{b:Bool}{r:AV}(hc:evT tm x=some (.val (.bool b)))(hb:b=true)(hr:evT tm y=some r)(hN:LN d N)(h:Reg m P N ops rest ((d,r)::tm) H K):Reg m P N ops (⟨some d,.pick x y z,ty,pos,af,none⟩::rest) tm H K:=by
 subst hb;exact S.val (OpV.pickT rfl hc hr) hN h
theorem S.pickF{b:Bool}{r:AV}(hc:evT tm x=some (.val (.bool b)))(hb:b=false)(hr:evT tm z=some r)(hN:LN d N)(h:Reg m P N ops rest ((d,r)::tm) H K):Reg m P N ops (⟨some d,.pick x y z,ty,pos,af,none⟩::rest) tm H K:=by
 subst hb;exact S.val (OpV.pickF rfl hc hr) hN h
def Ahu(op:BinOp)(a b:Int):Option Bool:=
 match op with
 | .eql=>some (decide (a=b))
 | .neq=>some (decide (¬a=b))
 | .lss=>some (decide (a<b))
 | .leq=>some (decide (a<=b))
 | .gtr=>some (decide (b<a))
 | .geq=>some (decide (b<=a))
 |_=>none
theorem p6a{bo:BinOp}{k:IntKind}{a b:Int}{c:Bool}(hx:evT tm x=some (.val (.int k a)))(hy:evT tm y=some (.val (.int k b)))(hc:Ahu bo a b=some c)(hN:LN d N)(h:Reg m P N ops rest ((d,.val (.bool c))::tm) H K):Reg m P N ops (⟨some d,.binOp bo t x y u,ty,pos,af,none⟩::rest) tm H K:=by
 refine S.val (p3s rfl hx hy ?_) hN h
 have hb:(a==b)=decide (a=b):=by by_cases h:a=b<;>simp[h]
 cases bo<;>simp only[Ahu,a0h,reduceCtorEq]at hc<;>subst hc
 ·exact congrArg (fun c=>some (Value.bool c)) hb
 ·refine congrArg (fun c=>some (Value.bool c)) ?_
  show(!(a==b))=_
  rw[hb,decide_not]
 ·rfl
 ·rfl
 ·rfl
 ·rfl
theorem S.arith{bo:BinOp}{a b c:Int}(hx:evT tm x=some (.val (.int .i64 a)))(hy:evT tm y=some (.val (.int .i64 b)))(hc:J7 bo a b=some c)(hN:LN d N)(h0: -9223372036854775808<=c/\c<=9223372036854775807)(h:Reg m P N ops rest ((d,.val (.int .i64 c))::tm) H K):Reg m P N ops (⟨some d,.binOp bo t x y u,ty,pos,af,none⟩::rest) tm H K:=
 S.val (OpV.arith rfl hx hy hc h0.1 h0.2) hN h
theorem S.not{b c:Bool}(hx:evT tm x=some (.val (.bool b)))(hc:(!b)=c)(hN:LN d N)(h:Reg m P N ops rest ((d,.val (.bool c))::tm) H K):Reg m P N ops (⟨some d,.unOp .not t x,ty,pos,af,none⟩::rest) tm H K:=by
 subst hc;exact S.val (p5c rfl hx) hN h
theorem p5n{p:Prop}{ip:Decidable p}(hx:evT tm x=some (.val (.bool (decide p))))(hN:LN d N)(h:Reg m P N ops rest ((d,.val (.bool (decide (¬p))))::tm) H K):Reg m P N ops (⟨some d,.unOp .not t x,ty,pos,af,none⟩::rest) tm H K:=
 S.not hx (by simp) hN h
theorem S.neg{a:Int}(hx:evT tm x=some (.val (.int .i64 a)))(hN:LN d N)(h0: -9223372036854775808<a/\a<=9223372036854775807)(h:Reg m P N ops rest ((d,.val (.int .i64 (-a)))::tm) H K):Reg m P N ops (⟨some d,.unOp .neg t x,ty,pos,af,none⟩::rest) tm H K:=S.val (OpV.neg rfl hx h0.1 h0.2) hN h
theorem O8(s r:ByteArray):(s.toList==r.toList)=decide (s=r):=by
 by_cases h:s=r
 ·subst h;simp
 ·have:s.toList≠r.toList:=fun e=>h (by
   rw[b2q,b2q]at e
   cases s;cases r
   exact congrArg _ (Array.toList_inj.1 e))
  simp[h,this]
theorem S.strEq{s r:ByteArray}(hx:evT tm x=some (.val (.string s)))(hy:evT tm y=some (.val (.string r)))(hN:LN d N)(h:Reg m P N ops rest ((d,.val (.bool (decide (s=r))))::tm) H K):Reg m P N ops (⟨some d,.binOp .eql t x y u,ty,pos,af,none⟩::rest) tm H K:=by
 have:=OpV.strEq (P:=P) (o:=⟨some d,.binOp .eql t x y u,ty,pos,af,none⟩) (Hf:=C0 m H) rfl hx hy
 rw[O8]at this
 exact S.val this hN h
theorem S.strNe{s r:ByteArray}(hx:evT tm x=some (.val (.string s)))(hy:evT tm y=some (.val (.string r)))(hN:LN d N)(h:Reg m P N ops rest ((d,.val (.bool (decide (¬s=r))))::tm) H K):Reg m P N ops (⟨some d,.binOp .neq t x y u,ty,pos,af,none⟩::rest) tm H K:=by
 have:=OpV.strNe (P:=P) (o:=⟨some d,.binOp .neq t x y u,ty,pos,af,none⟩) (Hf:=C0 m H) rfl hx hy
 rw[O8,<-decide_not]at this
 exact S.val this hN h
theorem S.extract{i:Nat}{cs:List AV}{r:AV}(hx:evT tm x=some (.tup cs))(hr:cs[i]?=some r)(hN:LN d N)(h:Reg m P N ops rest ((d,r)::tm) H K):Reg m P N ops (⟨some d,.extract x i,ty,pos,af,none⟩::rest) tm H K:=S.val (OpV.extract rfl hx hr) hN h
theorem S.loadR{c:Lf}{cs:List Lf}{ds:TypeDesc}[hu:HasU P t ds](hx:evT tm x=some (.rop (c::cs)))(hd:ds.isRow=false)(hN:LN d N)(h:Reg m P N ops rest ((d,.lf c)::tm) H K):Reg m P N ops (⟨some d,.load t x,ty,pos,af,none⟩::rest) tm H K:=S.val (OpV.loadR rfl hx hu.out hd) hN h
def Oa:Nat->List Lf->Option (List AV)
 |0,_=>some []
 |n+1,c::cs=>match Oa n cs with|some l=>some (.lf c::l)|none=>none
 |_+1,[]=>none
theorem Tu:∀(n:Nat)(cs:List Lf)(l:List AV),Oa n cs=some l->l=(cs.take n).map .lf/\n<=cs.length
 |0,cs,l,h=>by simp only[Oa,a0h]at h;subst h;simp
 |n+1,[],l,h=>by cases h
 |n+1,c::cs,l,h=>by
  simp only[Oa]at h
  cases e:Oa n cs with
  |none=>simp[e]at h
  |some l'=>
   simp only[e,a0h]at h
   obtain⟨h1,h2⟩:=Tu n cs l' e
   subst h h1
   simp[h2]
theorem S.loadRA{cs:List Lf}{l:List AV}{n:Nat}{ds:TypeDesc}[hu:HasU P t ds][hi:HasS P t n](hx:evT tm x=some (.rop cs))(hd:ds.isRow=true)(hl:Oa n cs=some l)(hN:LN d N)(h:Reg m P N ops rest ((d,.agg l)::tm) H K):Reg m P N ops (⟨some d,.load t x,ty,pos,af,none⟩::rest) tm H K:=by
 obtain⟨h1,h2⟩:=Tu _ _ _ hl
 subst h1
 exact S.val (OpV.loadRA rfl hx hu.out hd hi.out (a3f h2)) hN h
def AH.cell(H:Nat->HB)(b off:Nat):Option AV:=match H b with| .live cs=>cs[off]?|_=>none
theorem S.loadP{b off:Nat}{c:AV}{ds:TypeDesc}[hu:HasU P t ds](hx:evT tm x=some (.ptr b off))(hd:ds.isRow=false)(hc:AH.cell (C0 m H) b off=some c)(hN:LN d N)(h:Reg m P N ops rest ((d,c)::tm) H K):Reg m P N ops (⟨some d,.load t x,ty,pos,af,none⟩::rest) tm H K:=by
 unfold AH.cell at hc
 split at hc
 ·rename_i cs hb;exact S.val (OpV.loadP rfl hx hb hc hu.out hd) hN h
 ·cases hc
def O9:Nat->List AV->Option (List AV)
 |0,_=>some []
 |n+1,c::cs=>match O9 n cs with|some l=>some (c::l)|none=>none
 |_+1,[]=>none
theorem Tt:∀(n:Nat)(cs l:List AV),O9 n cs=some l->l=cs.take n/\n<=cs.length
 |0,cs,l,h=>by simp only[O9,a0h]at h;subst h;simp
 |n+1,[],l,h=>by cases h
 |n+1,c::cs,l,h=>by
  simp only[O9]at h
  cases e:O9 n cs with
  |none=>simp[e]at h
  |some l'=>
   simp only[e,a0h]at h
   obtain⟨h1,h2⟩:=Tt n cs l' e
   subst h h1
   simp[h2]
def Sa{α:Type}:Nat->List α->List α
 |0,l=>l
 |n+1,_::l=>Sa n l
 |_+1,[]=>[]
theorem M9{α:Type}:∀(n:Nat)(l:List α),Sa n l=l.drop n
 |0,l=>rfl
 |n+1,[]=>rfl
 |n+1,_::l=>M9 n l
def AH.part(H:Nat->HB)(b off n:Nat):Option (List AV):=match H b with| .live cs=>(match Nat.ble (off+n) cs.length with|true=>O9 n (Sa off cs)|false=>none)|_=>none
theorem S.loadPA{b off n:Nat}{l:List AV}{ds:TypeDesc}[hu:HasU P t ds][hi:HasS P t n](hx:evT tm x=some (.ptr b off))(hd:ds.isRow=true)(hl:AH.part (C0 m H) b off n=some l)(hN:LN d N)(h:Reg m P N ops rest ((d,.agg l)::tm) H K):Reg m P N ops (⟨some d,.load t x,ty,pos,af,none⟩::rest) tm H K:=by
 unfold AH.part at hl
 split at hl
 ·rename_i cs hb
  split at hl
  ·rename_i hn
   obtain⟨h1,h2⟩:=Tt _ _ _ hl
   subst h1
   rw[M9]at h
   exact S.val (OpV.loadPA rfl hx hb hu.out hd hi.out hn) hN h
  ·cases hl
 ·cases hl
end
def HB.isLive:HB->Bool
 | .live _=>true
 |_=>false
theorem Eb{h:HB}(k:h.isLive=true):∃cs,h=.live cs:=by cases h<;>first|exact⟨_,rfl⟩|cases k
theorem Gc{P:Program}{t:TypeId}{z:Value}(h:(P.info? t).bind (·.zero)=some z)(w:World):(zeroValue t).run P w=.ok z w:=by
 cases hq:P.info? t with
 |none=>simp[hq]at h
 |some i=>simp[hq]at h;simp[zeroValue,typeInfo,hq,h]

section
variable {P:Program}{N:Nat}{ops:Array Oper}{m:Option Nat}{K:Tm->AH->Prop}{tm:Tm}{H:AH}{rest:List Oper}{op:Op}{ty:TypeId}{pos:String}{af:Array Edge}{d:Nat}{x y z:Operand}{t u e:TypeId}
theorem S.fieldR{i off:Nat}{cs:List Lf}[hf:HasF P t i off](hx:evT tm x=some (.rop cs))(hN:LN d N)(h:Reg m P N ops rest ((d,.rop (Sa off cs))::tm) H K):Reg m P N ops (⟨some d,.fieldAddr t x i,ty,pos,af,none⟩::rest) tm H K:=by
 obtain⟨fs,f,n,h1,h2,h3,h4,rfl⟩:=hf.out
 rw[M9]at h
 exact S.val (OpV.fieldR rfl hx h1 h2 h3 h4) hN h
theorem S.fieldP{i off b o2:Nat}[hf:HasF P t i off](hx:evT tm x=some (.ptr b o2))(hb:(C0 m H b).isLive=true)(hN:LN d N)(h:Reg m P N ops rest ((d,.ptr b (o2+off))::tm) H K):Reg m P N ops (⟨some d,.fieldAddr t x i,ty,pos,af,none⟩::rest) tm H K:=by
 obtain⟨fs,f,n,h1,h2,h3,h4,rfl⟩:=hf.out
 obtain⟨cs,hb'⟩:=Eb hb
 exact S.val (OpV.fieldP rfl hx hb' h1 h2 h3 h4) hN h
theorem S.indexR{n:Nat}{k:IntKind}{i:Int}{rows:List (List Lf)}{row:List Lf}[hu:HasU P t (.slice e)][hi:HasS P e n](hx:evT tm x=some (.sl rows))(hy:evT tm y=some (.val (.int k i)))(hN:LN d N)(hrow:rows[i.toNat]?=some row)(h0:0<=i)(hn:row.length=n)(h:Reg m P N ops rest ((d,.rop row)::tm) H K):Reg m P N ops (⟨some d,.indexAddr t x y,ty,pos,af,none⟩::rest) tm H K:=
 S.val (OpV.indexR rfl hx hy hu.out hi.out hrow h0 hn) hN h
theorem p0i{cs:List Lf}{n:Nat}{ds:TypeDesc}[hu:HasU P t ds][hi:HasS P t n](hx:evT tm x=some (.rop cs))(hd:ds.isRow=true)(hN:LN d N)(hl:cs.length=n)(h:Reg m P N ops rest ((d,.agg (cs.map .lf))::tm) H K):Reg m P N ops (⟨some d,.load t x,ty,pos,af,none⟩::rest) tm H K:=by
 have:=OpV.loadRA (P:=P) (o:=⟨some d,.load t x,ty,pos,af,none⟩) (Hf:=C0 m H) rfl hx hu.out hd hi.out (a3f (by omega:n<=cs.length))
 rw[a0g (by omega)]at this
 exact S.val this hN h
theorem Aff(l:List Lf):(AV.agg (l.map .lf)).tree=true:=by
 simp only[AV.tree,a9w]
 exact a0l.2 fun x _=>rfl
theorem S.indexO{n b off len:Nat}{k:IntKind}{i:Int}{o2:Nat}[hu:HasU P t (.slice e)][hi:HasS P e n](hx:evT tm x=some (.own b off len n))(hy:evT tm y=some (.val (.int k i)))(hb:(C0 m H b).isLive=true)(hN:LN d N)(h0:0<=i/\i<len)(ho:off+i.toNat*n=o2)(h:Reg m P N ops rest ((d,.ptr b o2)::tm) H K):Reg m P N ops (⟨some d,.indexAddr t x y,ty,pos,af,none⟩::rest) tm H K:=by
 subst ho
 obtain⟨cs,hb'⟩:=Eb hb
 exact S.val (OpV.indexO rfl hx hb' hy hu.out hi.out h0.1 h0.2) hN h
theorem S.lenR{rows:List (List Lf)}[hu:HasU P t (.slice e)](hx:evT tm x=some (.sl rows))(hN:LN d N)(h:Reg m P N ops rest ((d,.val (.int .i64 rows.length))::tm) H K):Reg m P N ops (⟨some d,.call ⟨.builtin .len, #[x], #[t]⟩,ty,pos,af,none⟩::rest) tm H K:=S.val (OpV.lenR (u:=0) rfl hx hu.out) hN h
theorem S.lenO{b off len st:Nat}[hu:HasU P t (.slice e)](hx:evT tm x=some (.own b off len st))(hb:(C0 m H b).isLive=true)(hN:LN d N)(h:Reg m P N ops rest ((d,.val (.int .i64 len))::tm) H K):Reg m P N ops (⟨some d,.call ⟨.builtin .len, #[x], #[t]⟩,ty,pos,af,none⟩::rest) tm H K:=by
 obtain⟨cs,hb'⟩:=Eb hb
 exact S.val (OpV.lenO rfl hx hb' hu.out) hN h
theorem S.lenS{s:ByteArray}[hu:HasU P t .string](hx:evT tm x=some (.val (.string s)))(hN:LN d N)(h:Reg m P N ops rest ((d,.val (.int .i64 s.size))::tm) H K):Reg m P N ops (⟨some d,.call ⟨.builtin .len, #[x], #[t]⟩,ty,pos,af,none⟩::rest) tm H K:=S.val (OpV.lenS rfl hx hu.out) hN h
theorem p6f[hu:HasU P t (.slice e)](hx:evT tm x=some (.val (.slice none 0 0)))(hN:LN d N)(h:Reg m P N ops rest ((d,.val (.int .i64 0))::tm) H K):Reg m P N ops (⟨some d,.call ⟨.builtin .len, #[x], #[t]⟩,ty,pos,af,none⟩::rest) tm H K:=
 S.val (OpV.mk fun L w ρ η hη _=>by
  have h1:=(hη x (by simp[Op.operands,Call.operands]) _ hx).val_eq
  exact⟨_,by simp[execOp,h1,resolve,invoke,builtin,Builtin.len_,run_underlying hu.out,goInt],Ab _⟩) hN h
theorem S.byteAt{s:ByteArray}{k:IntKind}{i:Int}{c:UInt8}[hu:HasU P t .string](hx:evT tm x=some (.val (.string s)))(hy:evT tm y=some (.val (.int k i)))(hN:LN d N)(h0:0<=i)(hc:s[i.toNat]?=some c)(h:Reg m P N ops rest ((d,.val (.int .u8 c.toNat))::tm) H K):Reg m P N ops (⟨some d,.index t x y,ty,pos,af,none⟩::rest) tm H K:=
 S.val (OpV.byteAt rfl hx hy hu.out h0 hc) hN h
theorem p3f{cs:List Lf}(hx:evT tm x=some (.rop cs))(hN:LN d N)(h:Reg m P N ops rest ((d,.rop cs)::tm) H K):Reg m P N ops (⟨some d,.nilCheck x,ty,pos,af,none⟩::rest) tm H K:=S.val (OpV.nilCheck rfl hx rfl) hN h
theorem p3e{b off:Nat}(hx:evT tm x=some (.ptr b off))(hb:(C0 m H b).isLive=true)(hN:LN d N)(h:Reg m P N ops rest ((d,.ptr b off)::tm) H K):Reg m P N ops (⟨some d,.nilCheck x,ty,pos,af,none⟩::rest) tm H K:=by
 obtain⟨cs,hb'⟩:=Eb hb
 refine S.val (OpV.mk fun L w ρ η hη hH=>?_) hN h
 obtain⟨k,o,c,e,lo,hi,g1,_⟩:=hH b cs hb'
 have hh:=hη x (by simp[Op.operands]) _ hx
 have h1:=hh.ptr_out k o g1
 exact⟨η x,by simp[execOp,h1],hh⟩
theorem A1a{ev:Operand->Option AV}:∀(l:List Operand)(ys:List AV),evs ev l=some ys->l.mapM ev=some ys
 |[],ys,h=>by simpa[evs]using h
 |x::r,ys,h=>by
  simp only[evs]at h
  cases e:ev x with
  |none=>simp[e]at h
  |some y=>
   cases e2:evs ev r with
   |none=>simp[e,e2]at h
   |some ys'=>
    simp only[e,e2,a0h]at h
    subst h
    rw[a8f,e,A1a r ys' e2]
    rfl
theorem S.makeFunc{f:Fn}{xs:Array Operand}{ys:List AV}(hx:evs (evT tm) xs.toList=some ys)(hN:LN d N)(h:Reg m P N ops rest ((d,.fn f [] ys)::tm) H K):Reg m P N ops (⟨some d,.makeFunc f #[] xs,ty,pos,af,none⟩::rest) tm H K:=S.val (OpV.makeFunc rfl (A1a _ _ hx)) hN h
theorem S.call{f:FuncId}{xs:Array Operand}{ts:Array TypeId}{ys:List AV}{r:AV}(hx:evs (evT tm) xs.toList=some ys)(ht:ys.all AV.tree=true)(hp:Fn0 P f ys r)(hN:LN d N)(h:Reg m P N ops rest ((d,r)::tm) H K):Reg m P N ops (⟨some d,.call ⟨.value (.func f),xs,ts⟩,ty,pos,af,none⟩::rest) tm H K:=S.val (OpV.call hp rfl hx ht) hN h
def AV.plain:AV->Bool
 | .lf (.val _)=>true
 | .agg cs=>cs.all fun| .lf (.val _)=>true|_=>false
 | .tup cs=>cs.all fun| .lf (.val _)=>true| .agg cs=>(cs.all fun| .lf (.val _)=>true|_=>false)|_=>false
 |_=>false
theorem RelV.plain{w:World}{L L':Nat->Prop}{ρ ρ':Pl}{x:AV}{v:Value}(h:RelV w L ρ x v)(hp:x.plain=true):RelV w L' ρ' x v:=by
 have one:∀{x:AV}{v:Value},RelV w L ρ x v->(match x with| .lf (.val _)=>true|_=>false)=true->RelV w L' ρ' x v:=fun {x v} h hp=>by
  cases x with
  |lf y=>
   cases y with
   |val u=>rw[h.val_eq];exact Ab u
   |sl rows=>cases hp
   |fn f caps=>cases hp
  |_=>cases hp
 have ag:∀{cs:List AV}{v:Value},RelV w L ρ (.agg cs) v->(cs.all fun| .lf (.val _)=>true|_=>false)=true->RelV w L' ρ' (.agg cs) v:=fun {cs v} h hp=>by
  obtain⟨vs,rfl,hl,hr⟩:=h.agg_out
  exact .agg cs vs hl fun i x u hx hu=>one (hr i x u hx hu) (a0l.1 hp x (a0a hx))
 cases x with
 |lf y=>exact one h (by cases y<;>first|rfl|cases hp)
 |agg cs=>exact ag h hp
 |tup cs=>
  obtain⟨vs,rfl,hl,hr⟩:=h.tup_out
  refine .tup cs vs hl fun i x u hx hu=>?_
  have h1:=a0l.1 hp x (a0a hx)
  have h2:=hr i x u hx hu
  cases x with
  |lf y=>exact one h2 (by cases y<;>first|rfl|cases h1)
  |agg cs=>exact ag h2 h1
  |_=>cases h1
 |_=>cases hp
def Q7:Nat->AH->AH
 |0,_=>[]
 |_+1,[]=>[]
 |n+1,x::H=>x::Q7 n H
theorem A3c:∀(n:Nat)(H:AH)(b:Nat)(cs:List AV),(Q7 n H).at b=.live cs->Nat.blt b n=true/\H.at b=.live cs
 |0,H,b,cs,h=>by simp[Q7,AH.at]at h
 |n+1,[],b,cs,h=>by simp[Q7,AH.at]at h
 |n+1,x::H,0,cs,h=>⟨by simp[Nat.blt,Nat.ble],by simpa[Q7,AH.at]using h⟩
 |n+1,x::H,b+1,cs,h=>by
  rw[Q7,p0k]at h
  obtain⟨h1,h2⟩:=A3c n H b cs h
  refine⟨?_,by rw[p0k];exact h2⟩
  have:=a0c h1
  exact a3f (by omega)
def N3:Option Nat->AH->AH
 |none,H=>H
 |some n,H=>Q7 n H
theorem A1k{m:Option Nat}{H:AH}{b:Nat}{cs:List AV}(h:(N3 m H).at b=.live cs):C0 m H b=.live cs:=by
 cases m with
 |none=>exact h
 |some n=>
  obtain⟨h1,h2⟩:=A3c n H b cs h
  simp only[C0,h1]
  exact h2
theorem OpV.callV{o:Oper}{ev:Operand->Option AV}{Hf:Nat->HB}{f:FuncId}{xs:Array Operand}{ts:Array TypeId}{ys zs:List AV}{r:AV}{H0:AH}(hp:Fn0 P f zs r)(ho:o.op=.call ⟨.value (.func f),xs,ts⟩)(hx:evs ev xs.toList=some ys)(hs:∀b cs,H0.at b=.live cs->Hf b=.live cs)(hz:Out2L H0 ys zs)(hr:r.plain=true):OpV P o ev Hf r none:=fun E st a w ρ K Q hrs he hH hn hK=>by
 obtain⟨g1,g2⟩:=Ff _ _ hx
 have hrun:(execOp a.eval o).run P w=.ok (.enter f (xs.toList.map a.eval).toArray) w:=by
  have:(execOp a.eval o).run P w=(callFunc f (#[]++xs.map a.eval++ #[])).run P w:=by simp[execOp,ho,resolve,Act.eval,Deferred.ofValue,invoke]
  rw[this,hp.1.run]
  simp only[a5o,a5a,true_and,and_true]
  apply a6m
  simp
 have hR:∀{x y:AV}{v:Value},Out2 H0 x y->RelV w E.L ρ x v->RelV w E.L Ba y v:=fun {x y v} h hv=>by
  refine(h.mono (fun b cs hb=>hH b cs (hs b cs hb))).rel hrs.H hv
 unfold Oper.wp
 rw[hrun]
 obtain⟨h1,h2⟩:=hz.at
 refine(hp.2 E.L w (xs.toList.map a.eval) hrs.glob (fun k hk=>hrs.fb_lt k (.inl hk)) (by rw[a0e,<-h1];exact g1.symm) fun i x v hx hv=>?_).mono ?_
 ·obtain⟨y,h3,h4⟩:=h2 i x hx
  obtain⟨z,h5,h6⟩:=g2 i y h3
  rw[a0d,h5]at hv
  simp at hv
  subst hv
  refine hR h4 (hrs.ev (he z ?_ y h6))
  rw[ho]
  exact a5t.2 (.inr (a4p.1 (a0a h5)))
 ·rintro e w' ⟨v,rfl,hv,hb⟩
  exact hK w' ρ v (hrs.below hb) (hv.plain hr)
theorem S.callV{f:FuncId}{xs:Array Operand}{ts:Array TypeId}{ys zs:List AV}{r:AV}(hx:evs (evT tm) xs.toList=some ys)(hp:Fn0 P f zs r)(hz:Out2L (N3 m H) ys zs)(hr:r.plain=true)(hN:LN d N)(h:Reg m P N ops rest ((d,r)::tm) H K):Reg m P N ops (⟨some d,.call ⟨.value (.func f),xs,ts⟩,ty,pos,af,none⟩::rest) tm H K:=
 S.val (OpV.callV hp rfl hx (fun b cs hb=>A1k hb) hz hr) hN h

/-! ### New blocks -/
theorem OpV.box{o:Oper}{ev:Operand->Option AV}{Hf:Nat->HB}{r:AV}{b:Nat}(ho:o.op=.box t x)(hx:ev x=some r)(h1:r.boxed=true):OpV P o ev Hf (.ptr b 0) (some (b,r.cells)):=fun E st a w ρ K Q hr he hH hn hK=>by
 have hv:=hr.ev (he x (by simp[ho,Op.operands]) _ hx)
 obtain⟨hl,hc⟩:=hv.cells h1
 obtain⟨g1,g2⟩:=hr.alloc (hn b _ rfl) r.cells (a.eval x).cells t (by omega) hc
 have hrun:(execOp a.eval o).run P w=.ok (.value (.pointer (some ⟨w.heap.size,0,none⟩))) (w.alloc (.cells (a.eval x).cells t)):=by
  simp only[execOp,ho,Instr.box,a0t,P8,a0o,a1m]
 unfold Oper.wp
 rw[hrun]
 exact hK _ _ _ g1 g2
theorem S.box{r:AV}{b:Nat}{cs:List AV}(hb:H.nextId=some b)(hm:Vz m b=true)(hx:evT tm x=some r)(h1:r.boxed=true)(hc:r.cells=cs)(hN:LN d N)(h:Reg m P N ops rest ((d,.ptr b 0)::tm) (H.put b (.live cs)) K):Reg m P N ops (⟨some d,.box t x,ty,pos,af,none⟩::rest) tm H K:=by
 subst hc;exact S.new rfl hb hm (OpV.box rfl hx h1) hN h
theorem OpV.alloc{o:Oper}{ev:Operand->Option AV}{Hf:Nat->HB}{b:Nat}{v:Value}[hz:HasZ P t v](ho:o.op=.alloc t)(h1:(AV.cst v).boxed=true):OpV P o ev Hf (.ptr b 0) (some (b,(AV.cst v).cells)):=fun E st a w ρ K Q hr he hH hn hK=>by
 have hv:RelV w E.L ρ (AV.cst v) v:=Po v
 obtain⟨hl,hc⟩:=hv.cells h1
 obtain⟨g1,g2⟩:=hr.alloc (hn b _ rfl) (AV.cst v).cells v.cells t (by omega) hc
 have hrun:(execOp a.eval o).run P w=.ok (.value (.pointer (some ⟨w.heap.size,0,none⟩))) (w.alloc (.cells v.cells t)):=by
  simp only[execOp,ho,Instr.alloc,a0t,Gc hz.out,P8,a0o,a1m]
 unfold Oper.wp
 rw[hrun]
 exact hK _ _ _ g1 g2
theorem S.alloc{v:Value}{b:Nat}{cs:List AV}[hz:HasZ P t v](hb:H.nextId=some b)(hm:Vz m b=true)(h1:(AV.cst v).boxed=true)(hc:(AV.cst v).cells=cs)(hN:LN d N)(h:Reg m P N ops rest ((d,.ptr b 0)::tm) (H.put b (.live cs)) K):Reg m P N ops (⟨some d,.alloc t,ty,pos,af,none⟩::rest) tm H K:=by
 subst hc;exact S.new rfl hb hm (OpV.alloc rfl h1) hN h

/-! ### Stores -/
def AV.one:AV->Bool
 | .lf (.val v)=>v.oneCell'
 | .agg _=>false
 | .tup _=>false
 |_=>true
theorem RelV.one{w:World}{L:Nat->Prop}{ρ:Pl}{x:AV}{v:Value}(h:RelV w L ρ x v)(h1:x.one=true):v.oneCell'=true:=by
 cases x with
 |lf y=>
  cases y with
  |val u=>rw[h.val_eq];exact h1
  |sl rows=>obtain⟨a,cap,rfl,_⟩:=h.lf_out.slice;rfl
  |fn f caps=>obtain⟨ads,V,rfl,_⟩:=h.lf_out.fn_out;rfl
 |agg cs=>cases h1
 |tup cs=>cases h1
 |rop cs=>obtain⟨ad,V,rfl,_⟩:=h.rop_out;rfl
 |ptr b off=>exact h.ptr_one
 |own b off len st=>exact h.own_one
 |mp b=>exact h.mp_one
 |err=>obtain⟨t,u,rfl⟩:=h.err_out;rfl
 |fn f fs cs=>obtain⟨us,vs,rfl,_⟩:=h.fn_out;rfl
def Bk:Nat->List AV->List AV->List AV
 |0,[],cs=>cs
 |0,x::xs,_::cs=>x::Bk 0 xs cs
 |n+1,xs,c::cs=>c::Bk n xs cs
 |_,_,[]=>[]
theorem G9:∀(n:Nat)(cs:List AV),Bk n [] cs=cs
 |0,cs=>by cases cs<;>rfl
 |n+1,[]=>rfl
 |n+1,c::cs=>by rw[Bk,G9]
theorem Zq:∀(n:Nat)(x:AV)(xs cs:List AV),Bk (n+1) xs (cs.set n x)=Bk n (x::xs) cs
 |0,x,xs,[]=>by simp[Bk]
 |0,x,xs,c::cs=>by simp[Bk]
 |n+1,x,xs,[]=>by simp[Bk]
 |n+1,x,xs,c::cs=>by rw[a5e,Bk,Zq n x xs cs];rfl
theorem O7{E:Env}{a:Act}{ρ:Pl}{b k o:Nat}(hk:ρ b=some (some (k,o))):∀(xs:List AV)(vs:List Value)(i off:Nat)(cells:List AV)(st:St)(w:World),RelSt E st a w ρ->st.H.at b=.live cells->off+i+xs.length<=cells.length->xs.length=vs.length->
  (∀(j:Nat)(x:AV)(v:Value),xs[j]?=some x->vs[j]?=some v->RelV w E.L ρ x v/\x.one=true)->
  ∃w',(storeCells ⟨k,o+off,none⟩ vs i).run P w=.ok () w'/\Later E.L w ρ w' ρ/\RelSt E {st with H:=st.H.put b (.live (Bk (off+i) xs cells))} a w' ρ
 |[],[],i,off,cells,st,w,hr,hb,hl,hlen,hx=>by
  refine⟨w,rfl,Later.refl _ _ _,?_⟩
  rw[G9]
  refine hr.sameH fun b'=>?_
  rw[p0e]
  by_cases e:b'=b
  ·subst e;rw[if_pos rfl,hb]
  ·rw[if_neg e]
 |x::xs,v::vs,i,off,cells,st,w,hr,hb,hl,hlen,hx=>by
  obtain⟨hv,h1⟩:=hx 0 x v rfl rfl
  simp only[a0j]at hl hlen
  obtain⟨k',o',c,e,lo,hi,g1,g2,g3,g4,g5,g6⟩:=hr.H.live b cells hb
  rw[hk]at g1
  injection g1 with g1
  injection g1 with g1
  injection g1 with g1 g1'
  subst g1 g1'
  have hcell:w.cell? ⟨k,o+(off+i),none⟩=some (c[o+(off+i)]'(by omega)):=Bi g2 (a2e _)
  have hfz:w.frozen? ⟨k,o+(off+i),none⟩=false:=by
   simp only[World.frozen?,g2]
   simp
   omega
  have hst:(store ((⟨k,o+off,none⟩:Addr).add i) v).run P w=.ok () (w.setCell ⟨k,o+(off+i),none⟩ v):=by
   rw[Bf rfl,a1t,run_store P w _ v _ (hv.one h1)]
   simp[hcell,hfz]
  have hr2:=hr.store hb (off:=off+i) (by omega) hv hk
  have hla:=hr.store_later hb (off:=off+i) (v:=v) hk
  obtain⟨w',h2,h3,h4⟩:=O7 hk xs vs (i+1) off (cells.set (off+i) x) _ _ hr2 (by simp only[];rw[p0e,if_pos rfl]) (by simp;omega) (by omega) fun j y u hy hu=>by
   obtain⟨h5,h6⟩:=hx (j+1) y u (by simpa using hy) (by simpa using hu)
   exact⟨h5.later hla,h6⟩
  refine⟨w',?_,hla.trans h3,?_⟩
  ·simp only[storeCells,a0t,hst,a0o,h2]
  ·refine h4.sameH fun b'=>?_
   rw[<-a1t,Zq]
   simp only[]
   rw[p0e,p0e,p0e]
   by_cases e:b'=b
   ·rw[if_pos e,if_pos e]
   ·rw[if_neg e,if_neg e,if_neg e]
 |[],_::_,_,_,_,_,_,_,_,_,h,_=>by simp at h
 |_::_,[],_,_,_,_,_,_,_,_,h,_=>by simp at h
theorem A6j{b off n:Nat}{cells:List AV}{r:AV}[hi:HasS P t n]{o:Oper}{ev:Operand->Option AV}(ho:o.op=.store t x y)(hx:ev x=some (.ptr b off))(hy:ev y=some r)(h1:r.boxed=true)(h2:(r.cells.all AV.one)=true)(hn:r.cells.length=n)(hl:Nat.ble (off+n) cells.length=true):Ahk P o ev b cells (Bk off r.cells cells):=fun E tm H a w ρ K' Q hr he hb hK=>by
 obtain⟨k,o',c,e,lo,hi',g1,g2,g3,g4,g5,g6⟩:=hr.H.live b cells hb
 have hxv:RelV w E.L ρ (.ptr b off) (a.eval x):=hr.ev (by rw[Am];exact he x (by rw[ho];simp[Op.operands]) _ hx)
 have hyv:RelV w E.L ρ r (a.eval y):=hr.ev (by rw[Am];exact he y (by rw[ho];simp[Op.operands]) _ hy)
 have h3:=hxv.ptr_out k o' g1
 obtain⟨h4,h5⟩:=hyv.cells h1
 obtain⟨w',h6,h7,h8⟩:=O7 (P:=P) g1 r.cells (a.eval y).cells.toList 0 off cells ⟨tm,H⟩ w hr hb (by have:=a0c hl;omega) (by simpa using h4) fun j z u hz hu=>by
  obtain⟨v,h6,h7⟩:=h5 j z hz
  simp only[a7j]at hu
  rw[h6]at hu
  injection hu with hu
  subst hu
  exact⟨h7,a0l.1 h2 z (a0a hz)⟩
 unfold Oper.wp
 have hrun:(execOp a.eval o).run P w=.ok .skip w':=by
  simp only[execOp,ho,h3,Instr.storeAt,Instr.sureAddr,a0t,a1m,a0o,storeVar,Ax hi.out]
  rw[if_neg (by rw[<-h4,hn];simp)]
  rw[h6]
  rfl
 rw[hrun]
 exact hK _ h8
theorem S.store{b off n:Nat}{cells:List AV}{r:AV}[hi:HasS P t n](hx:evT tm x=some (.ptr b off))(hy:evT tm y=some r)(hb:H.at b=.live cells)(h1:r.boxed=true)(h2:(r.cells.all AV.one)=true)(hn:r.cells.length=n)(hl:Nat.ble (off+n) cells.length=true)(h:Reg none P N ops rest tm (H.put b (.live (Bk off r.cells cells))) K):Reg none P N ops (⟨none,.store t x y,ty,pos,af,none⟩::rest) tm H K:=by
 refine⟨fun E a w ρ hE hr=>?_⟩
 replace h:=h.out
 refine wpList_plain rfl fun K' hK=>?_
 exact A6j rfl hx hy h1 h2 hn hl E tm H a w ρ K' _ hr (fun _ _ _ h=>h) hb fun w' h8=>hK _ _ (h E a w' ρ hE h8)
theorem p3u{n0 b off n:Nat}{cells:List AV}{r:AV}[hi:HasS P t n](hx:evT tm x=some (.ptr b off))(hy:evT tm y=some r)(hb:H.at b=.live cells)(h1:r.boxed=true)(h2:(r.cells.all AV.one)=true)(hn:r.cells.length=n)(hl:Nat.ble (off+n) cells.length=true)(hm:Nat.ble n0 b=true)(h:Reg (some n0) P N ops rest tm (H.put b (.live (Bk off r.cells cells))) K):Reg (some n0) P N ops (⟨none,.store t x y,ty,pos,af,none⟩::rest) tm H K:=by
 refine⟨?_⟩
 obtain⟨ss,g1,g2⟩:=h.out
 exact⟨.sto b (Bk off r.cells cells)::ss,⟨⟨rfl,g1⟩,rfl,⟨cells,hb,A6j rfl hx hy h1 h2 hn hl⟩,a0c hm,rfl⟩,g2⟩
theorem S.ld{n0 b:Nat}{cells:List AV}{op:Op}{r:AV}(hb:H.at b=.live cells)(ho:OpV P ⟨some d,op,ty,pos,af,none⟩ (evT tm) (fun b'=>if b'=b then .live cells else .free) r none)(hl:A0m ops d=true)(hN:LN d N)(h:Reg (some n0) P N ops rest ((d,r)::tm) H K):Reg (some n0) P N ops (⟨some d,op,ty,pos,af,none⟩::rest) tm H K:=by
 refine⟨?_⟩
 obtain⟨ss,g1,g2⟩:=h.out
 exact⟨.ld r b::ss,⟨⟨a0c hN,rfl,g1⟩,rfl,⟨cells,hb,ho⟩,d,rfl,hl⟩,g2⟩
theorem p4d{n0 b off:Nat}{c:AV}{ds:TypeDesc}[hu:HasU P t ds](hx:evT tm x=some (.ptr b off))(hd:ds.isRow=false)(hc:AH.cell (C0 none H) b off=some c)(hl:A0m ops d=true)(hN:LN d N)(h:Reg (some n0) P N ops rest ((d,c)::tm) H K):Reg (some n0) P N ops (⟨some d,.load t x,ty,pos,af,none⟩::rest) tm H K:=by
 unfold AH.cell at hc
 split at hc
 ·rename_i cs hb;exact S.ld hb (OpV.loadP rfl hx (if_pos rfl) hc hu.out hd) hl hN h
 ·cases hc
theorem p3t{n0 i off b o2:Nat}[hf:HasF P t i off](hx:evT tm x=some (.ptr b o2))(hb:(C0 none H b).isLive=true)(hm:Ae3 ops=true)(hN:LN d N)(h:Reg (some n0) P N ops rest ((d,.ptr b (o2+off))::tm) H K):Reg (some n0) P N ops (⟨some d,.fieldAddr t x i,ty,pos,af,none⟩::rest) tm H K:=by
 obtain⟨fs,f,n,h1,h2,h3,h4,rfl⟩:=hf.out
 obtain⟨cs,hb'⟩:=Eb hb
 refine⟨?_⟩
 obtain⟨ss,g1,g2⟩:=h.out
 exact⟨.lv (.ptr b (o2+f.offset)) b::ss,⟨⟨a0c hN,rfl,g1⟩,rfl,⟨cs,hb'⟩,fun cells=>OpV.fieldP rfl hx (if_pos rfl) h1 h2 h3 h4,hm⟩,g2⟩
end
def Hl(place:Nat->Option (Nat×Nat)):List (Nat×AV)->List AV->Option (List AV)
 |[],cs=>some cs
 |(i,x)::rest,cs=>match place i with
  |none=>none
  |some (off,size)=>match Nat.beq x.cells.length size&&Nat.ble (off+size) cs.length&&x.boxed with
   |true=>Hl place rest (Bk off x.cells cs)
   |false=>none
theorem Xz:∀(n:Nat)(xs cs:List AV)(j:Nat),n+xs.length<=cs.length->(Bk n xs cs)[j]?=if n<=j/\j<n+xs.length then xs[j-n]? else cs[j]?
 |0,[],cs,j,h=>by rw[G9,if_neg (by simp)]
 |0,x::xs,c::cs,0,h=>by simp[Bk]
 |0,x::xs,c::cs,j+1,h=>by
  have ih:=Xz 0 xs cs j (by simp at h⊢;omega)
  rw[Bk,a2l,ih]
  by_cases hj:j<xs.length
  ·rw[if_pos (by omega),if_pos (by simp;omega)];simp
  ·rw[if_neg (by omega),if_neg (by simp;omega)];simp
 |0,x::xs,[],j,h=>by simp at h
 |n+1,xs,[],j,h=>by simp at h
 |n+1,xs,c::cs,0,h=>by simp[Bk]
 |n+1,xs,c::cs,j+1,h=>by
  have ih:=Xz n xs cs j (by simp at h;omega)
  rw[Bk,a2l,ih]
  by_cases hj:n<=j/\j<n+xs.length
  ·rw[if_pos hj,if_pos (by omega),show j+1-(n+1)=j-n by omega]
  ·rw[if_neg hj,if_neg (by omega)];simp
theorem I4:∀(n:Nat)(xs cs:List AV),n+xs.length<=cs.length->(Bk n xs cs).length=cs.length
 |0,[],cs,h=>by rw[G9]
 |0,x::xs,c::cs,h=>by rw[Bk,a0j,I4 0 xs cs (by simp at h⊢;omega),a0j]
 |0,x::xs,[],h=>by simp at h
 |n+1,xs,[],h=>by simp at h
 |n+1,xs,c::cs,h=>by rw[Bk,a0j,I4 n xs cs (by simp at h;omega),a0j]
theorem Ym(off:Nat):∀(vs:List Value)(i:Nat)(cs:Array Value),let r:=(vs.zipIdx i).foldl (fun cs (p:Value×Nat)=>cs.setIfInBounds (off+p.2) p.1) cs;r.size=cs.size/\∀j,j<cs.size->r[j]?=if off+i<=j/\j<off+i+vs.length then vs[j-(off+i)]? else cs[j]?
 |[],i,cs=>⟨rfl,fun j hj=>by rw[if_neg (by simp;try omega)];rfl⟩
 |v::vs,i,cs=>by
  obtain⟨h1,h2⟩:=Ym off vs (i+1) (cs.setIfInBounds (off+i) v)
  simp only[List.zipIdx_cons,a2y]
  refine⟨by simpa using h1,fun j hj=>?_⟩
  rw[h2 j (by simpa using hj)]
  by_cases e:j=off+i
  ·subst e
   rw[if_neg (by omega),if_pos (by simp)]
   simp[hj]
  ·by_cases e2:off+(i+1)<=j/\j<off+(i+1)+vs.length
   ·rw[if_pos e2,if_pos (by simp;omega),show j-(off+i)=j-(off+(i+1))+1 by omega,a2l]
   ·rw[if_neg e2,if_neg (by simp;omega),a9p (by omega)]
def I9(w:World)(L:Nat->Prop)(ρ:Pl)(cs:List AV)(vs:Array Value):Prop:=cs.length=vs.size/\∀(j:Nat)(x:AV),cs[j]?=some x->∃v,vs[j]?=some v/\RelV w L ρ x v
theorem Ju{w:World}{L:Nat->Prop}{ρ:Pl}{place:Nat->Option (Nat×Nat)}:∀(ps:List (Nat×AV))(us:List (Nat×Value))(cs:List AV)(vs:Array Value)(out:List AV),ps.length=us.length->(∀(j:Nat)(p:Nat×AV)(u:Nat×Value),ps[j]?=some p->us[j]?=some u->p.1=u.1/\RelV w L ρ p.2 u.2)->
  I9 w L ρ cs vs->Hl place ps cs=some out->∃r,Instr.fill place vs us=some r/\I9 w L ρ out r
 |[],[],cs,vs,out,_,_,hc,h=>by
  simp only[Hl,a0h]at h
  subst h
  exact⟨vs,rfl,hc⟩
 |(i,x)::ps,(i',v)::us,cs,vs,out,hl,hr,hc,h=>by
  obtain⟨h1,h2⟩:=hr 0 _ _ rfl rfl
  simp only at h1 h2
  subst h1
  simp only[Hl]at h
  split at h
  ·cases h
  ·rename_i off size hp
   split at h
   ·rename_i hb
    rw[a0w,a0w]at hb
    obtain⟨⟨hb1,hb2⟩,hb3⟩:=hb
    have hb1:=a2b hb1
    have hb2:=a0c hb2
    obtain⟨g1,g2⟩:=h2.cells hb3
    obtain⟨hc1,hc2⟩:=hc
    simp only[Instr.fill,hp]
    rw[if_neg (by simp only[a5k,decide_eq_true_eq,not_or];constructor<;>omega)]
    obtain⟨f1,f2⟩:=Ym off v.cells.toList 0 vs
    have hz:v.cells.zipIdx.foldl (fun cs (p:Value×Nat)=>cs.setIfInBounds (off+p.2) p.1) vs=(v.cells.toList.zipIdx 0).foldl (fun cs (p:Value×Nat)=>cs.setIfInBounds (off+p.2) p.1) vs:=by
     rw[<-Array.foldl_toList];simp
    rw[hz]
    refine Ju ps us _ _ out (by simpa using hl) (fun j p u a b=>hr (j+1) p u (by simpa using a) (by simpa using b)) ⟨?_,fun j y hy=>?_⟩ h
    ·rw[I4 _ _ _ (by omega)]
     rw[f1];exact hc1
    ·have hj:j<vs.size:=by
      have:=(a0f.1 hy).1
      rw[I4 _ _ _ (by omega)]at this
      omega
     rw[Xz _ _ _ _ (by omega)]at hy
     rw[f2 j hj]
     simp only[a3b,b2n,<-g1]
     by_cases e:off<=j/\j<off+x.cells.length
     ·rw[if_pos e]at hy⊢
      obtain⟨u,h3,h4⟩:=g2 _ _ hy
      exact⟨u,by simpa using h3,h4⟩
     ·rw[if_neg e]at hy⊢
      exact hc2 j y hy
   ·cases h
 |[],_::_,_,_,_,hl,_,_,_=>by simp at hl
 |_::_,[],_,_,_,hl,_,_,_=>by simp at hl
def Ew(ev:Operand->Option AV):List (Nat×Operand)->Option (List (Nat×AV))
 |[]=>some []
 |(i,x)::r=>match ev x with
  |none=>none
  |some y=>match Ew ev r with
   |none=>none
   |some l=>some ((i,y)::l)
theorem R6{ev:Operand->Option AV}:∀(l:List (Nat×Operand))(ys:List (Nat×AV)),Ew ev l=some ys->l.length=ys.length/\∀(j:Nat)(p:Nat×AV),ys[j]?=some p->∃x,l[j]?=some (p.1,x)/\ev x=some p.2
 |[],ys,h=>by simp only[Ew,a0h]at h;subst h;simp
 |(i,x)::r,ys,h=>by
  simp only[Ew]at h
  cases e:ev x with
  |none=>simp[e]at h
  |some y=>
   cases e2:Ew ev r with
   |none=>simp[e,e2]at h
   |some l=>
    simp only[e,e2,a0h]at h
    subst h
    obtain⟨g1,g2⟩:=R6 r l e2
    refine⟨by simp[g1],fun j p hp=>?_⟩
    cases j with
    |zero=>simp at hp;subst hp;exact⟨x,rfl,e⟩
    |succ j=>simp at hp;simpa using g2 j p hp
theorem Ks{w:World}{L:Nat->Prop}{ρ:Pl}{ev:Operand->Option AV}{η:Operand->Value}{ps:Array (Nat×Operand)}{ys:List (Nat×AV)}(h:Ew ev ps.toList=some ys)(hη:∀x∈ps.toList.map (·.2),∀y,ev x=some y->RelV w L ρ y (η x)):
  ys.length=(ps.map fun(i,x)=>(i,η x)).toList.length/\∀(j:Nat)(p:Nat×AV)(u:Nat×Value),ys[j]?=some p->(ps.map fun(i,x)=>(i,η x)).toList[j]?=some u->p.1=u.1/\RelV w L ρ p.2 u.2:=by
 obtain⟨g1,g2⟩:=R6 _ _ h
 refine⟨by simp[<-g1],fun j p u hp hu=>?_⟩
 obtain⟨x,h1,h2⟩:=g2 j p hp
 rw[a7o,a0d,h1]at hu
 simp at hu
 subst hu
 exact⟨rfl,hη x (a1d.2 ⟨_,a0a h1,rfl⟩) _ h2⟩
section
variable {P:Program}{N:Nat}{ops:Array Oper}{m:Option Nat}{K:Tm->AH->Prop}{tm:Tm}{H:AH}{rest:List Oper}{op:Op}{ty:TypeId}{pos:String}{af:Array Edge}{d:Nat}{x y z:Operand}{t u e:TypeId}
/-! Guards and tests that are known, or that split the way. -/
section
variable {j g:Nat}{p:Prop}{ip:Decidable p}
theorem p5g(hj:(ops[j]?).bind (·.dst)=some g)(hc:tm.get g=some (.val (.bool (decide p))))(hp:p)(h:Reg m P N ops (⟨some d,op,ty,pos,af,none⟩::rest) tm H K):Reg m P N ops (⟨some d,op,ty,pos,af,some (j,true)⟩::rest) tm H K:=
 S.run (by simp only[Bb,hj,hc,decide_eq_true hp];rfl) h
theorem p4s(hj:(ops[j]?).bind (·.dst)=some g)(hc:tm.get g=some (.val (.bool (decide p))))(hp:¬p)(hN:LN d N)(h:Reg m P N ops rest ((d,.val undef)::tm) H K):Reg m P N ops (⟨some d,op,ty,pos,af,some (j,true)⟩::rest) tm H K:=
 S.skip (by simp only[Bb,hj,hc,decide_eq_false hp];rfl) hN h
theorem p4q(hj:(ops[j]?).bind (·.dst)=some g)(hc:tm.get g=some (.val (.bool (decide p))))(hp:¬p)(h:Reg m P N ops (⟨some d,op,ty,pos,af,none⟩::rest) tm H K):Reg m P N ops (⟨some d,op,ty,pos,af,some (j,false)⟩::rest) tm H K:=
 S.run (by simp only[Bb,hj,hc,decide_eq_false hp];rfl) h
theorem p5f(hj:(ops[j]?).bind (·.dst)=some g)(hc:tm.get g=some (.val (.bool (decide p))))(hp:p)(hN:LN d N)(h:Reg m P N ops rest ((d,.val undef)::tm) H K):Reg m P N ops (⟨some d,op,ty,pos,af,some (j,false)⟩::rest) tm H K:=
 S.skip (by simp only[Bb,hj,hc,decide_eq_true hp];rfl) hN h
theorem p6d(hj:(ops[j]?).bind (·.dst)=some g)(hc:tm.get g=some (.val (.bool (decide p))))(hN:LN d N)(h1:p->Reg m P N ops (⟨some d,op,ty,pos,af,none⟩::rest) tm H K)(h2:¬p->Reg m P N ops rest ((d,.val undef)::tm) H K):Reg m P N ops (⟨some d,op,ty,pos,af,some (j,true)⟩::rest) tm H K:=by
 by_cases hp:p
 ·exact p5g hj hc hp (h1 hp)
 ·exact p4s hj hc hp hN (h2 hp)
theorem p6b(hj:(ops[j]?).bind (·.dst)=some g)(hc:tm.get g=some (.val (.bool (decide p))))(hN:LN d N)(h1:¬p->Reg m P N ops (⟨some d,op,ty,pos,af,none⟩::rest) tm H K)(h2:p->Reg m P N ops rest ((d,.val undef)::tm) H K):Reg m P N ops (⟨some d,op,ty,pos,af,some (j,false)⟩::rest) tm H K:=by
 by_cases hp:p
 ·exact p5f hj hc hp hN (h2 hp)
 ·exact p4q hj hc hp (h1 hp)
theorem p6e(hj:(ops[j]?).bind (·.dst)=some g)(hc:tm.get g=some (.val (.bool (decide (¬p)))))(hN:LN d N)(h1:¬p->Reg m P N ops (⟨some d,op,ty,pos,af,none⟩::rest) tm H K)(h2:p->Reg m P N ops rest ((d,.val undef)::tm) H K):Reg m P N ops (⟨some d,op,ty,pos,af,some (j,true)⟩::rest) tm H K:=
 p6d hj hc hN h1 fun h=>h2 (a7r h)
theorem p6c(hj:(ops[j]?).bind (·.dst)=some g)(hc:tm.get g=some (.val (.bool (decide (¬p)))))(hN:LN d N)(h1:p->Reg m P N ops (⟨some d,op,ty,pos,af,none⟩::rest) tm H K)(h2:¬p->Reg m P N ops rest ((d,.val undef)::tm) H K):Reg m P N ops (⟨some d,op,ty,pos,af,some (j,false)⟩::rest) tm H K:=
 p6b hj hc hN (fun h=>h1 (a7r h)) h2
theorem p5h{r:AV}(hc:evT tm x=some (.val (.bool (decide p))))(hp:p)(hr:evT tm y=some r)(hN:LN d N)(h:Reg m P N ops rest ((d,r)::tm) H K):Reg m P N ops (⟨some d,.pick x y z,ty,pos,af,none⟩::rest) tm H K:=S.pickT hc (decide_eq_true hp) hr hN h
theorem p4w{r:AV}(hc:evT tm x=some (.val (.bool (decide p))))(hp:¬p)(hr:evT tm z=some r)(hN:LN d N)(h:Reg m P N ops rest ((d,r)::tm) H K):Reg m P N ops (⟨some d,.pick x y z,ty,pos,af,none⟩::rest) tm H K:=S.pickF hc (decide_eq_false hp) hr hN h
theorem p6i{r r':AV}(hc:evT tm x=some (.val (.bool (decide p))))(hr:evT tm y=some r)(hr':evT tm z=some r')(hN:LN d N)(h1:p->Reg m P N ops rest ((d,r)::tm) H K)(h2:¬p->Reg m P N ops rest ((d,r')::tm) H K):Reg m P N ops (⟨some d,.pick x y z,ty,pos,af,none⟩::rest) tm H K:=by
 by_cases hp:p
 ·exact p5h hc hp hr hN (h1 hp)
 ·exact p4w hc hp hr' hN (h2 hp)
theorem p4t(hj:(ops[j]?).bind (·.dst)=some g)(hc:tm.get g=some (.val (.bool (decide (¬p)))))(hp:p)(hN:LN d N)(h:Reg m P N ops rest ((d,.val undef)::tm) H K):Reg m P N ops (⟨some d,op,ty,pos,af,some (j,true)⟩::rest) tm H K:=p4s hj hc (fun h=>h hp) hN h
theorem p4r(hj:(ops[j]?).bind (·.dst)=some g)(hc:tm.get g=some (.val (.bool (decide (¬p)))))(hp:p)(h:Reg m P N ops (⟨some d,op,ty,pos,af,none⟩::rest) tm H K):Reg m P N ops (⟨some d,op,ty,pos,af,some (j,false)⟩::rest) tm H K:=p4q hj hc (fun h=>h hp) h
theorem p5v{r:AV}(hc:evT tm x=some (.val (.bool (decide (¬p)))))(hp:p)(hr:evT tm z=some r)(hN:LN d N)(h:Reg m P N ops rest ((d,r)::tm) H K):Reg m P N ops (⟨some d,.pick x y z,ty,pos,af,none⟩::rest) tm H K:=p4w hc (fun h=>h hp) hr hN h
theorem p6r{r r':AV}(hc:evT tm x=some (.val (.bool (decide (¬p)))))(hr:evT tm y=some r)(hr':evT tm z=some r')(hN:LN d N)(h1:¬p->Reg m P N ops rest ((d,r)::tm) H K)(h2:p->Reg m P N ops rest ((d,r')::tm) H K):Reg m P N ops (⟨some d,.pick x y z,ty,pos,af,none⟩::rest) tm H K:=p6i hc hr hr' hN h1 fun h=>h2 (a7r h)
variable {Q:Exit->St->Prop}{st:St}{a b:Code}{c:Operand}
theorem p6k(hc:St.ev ⟨tm,H⟩ c=some (.val (.bool (decide (¬p)))))(hp:p)(h:T P N b ⟨tm,H⟩ Q):T P N (.cond c a b) ⟨tm,H⟩ Q:=T.cond hc (fun ht=>absurd hp (of_decide_eq_true ht)) fun _=>h
theorem p6w(hc:St.ev ⟨tm,H⟩ c=some (.val (.bool (decide p))))(hp:p)(h:T P N a ⟨tm,H⟩ Q):T P N (.cond c a b) ⟨tm,H⟩ Q:=T.cond hc (fun _=>h) fun hf=>absurd hp (of_decide_eq_false hf)
theorem p6u(hc:St.ev ⟨tm,H⟩ c=some (.val (.bool (decide p))))(hp:¬p)(h:T P N b ⟨tm,H⟩ Q):T P N (.cond c a b) ⟨tm,H⟩ Q:=T.cond hc (fun ht=>absurd (of_decide_eq_true ht) hp) fun _=>h
theorem p6v(hc:St.ev ⟨tm,H⟩ c=some (.val (.bool (decide p))))(h1:p->T P N a ⟨tm,H⟩ Q)(h2:¬p->T P N b ⟨tm,H⟩ Q):T P N (.cond c a b) ⟨tm,H⟩ Q:=T.cond hc (fun h=>h1 (of_decide_eq_true h)) fun h=>h2 (of_decide_eq_false h)
theorem p6s(hc:St.ev ⟨tm,H⟩ c=some (.val (.bool (decide (¬p)))))(h1:¬p->T P N a ⟨tm,H⟩ Q)(h2:p->T P N b ⟨tm,H⟩ Q):T P N (.cond c a b) ⟨tm,H⟩ Q:=p6v hc h1 fun h=>h2 (a7r h)
end
theorem p6p{j g:Nat}{pol:Bool}(hj:(ops[j]?).bind (·.dst)=some g)(hc:tm.get g=some (.val undef))(hN:LN d N)(h:Reg m P N ops rest ((d,.val undef)::tm) H K):Reg m P N ops (⟨some d,op,ty,pos,af,some (j,pol)⟩::rest) tm H K:=
 S.skip (by simp only[Bb,hj,hc,undef]) hN h
theorem p6o{j g:Nat}{pol c:Bool}(hj:(ops[j]?).bind (·.dst)=some g)(hc:tm.get g=some (.val (.bool c)))(hp:(c==pol)=true)(h:Reg m P N ops (⟨some d,op,ty,pos,af,none⟩::rest) tm H K):Reg m P N ops (⟨some d,op,ty,pos,af,some (j,pol)⟩::rest) tm H K:=
 S.run (by simp only[Bb,hj,hc,hp]) h
theorem p5s{j g:Nat}{pol c:Bool}(hj:(ops[j]?).bind (·.dst)=some g)(hc:tm.get g=some (.val (.bool c)))(hp:(c==pol)=false)(hN:LN d N)(h:Reg m P N ops rest ((d,.val undef)::tm) H K):Reg m P N ops (⟨some d,op,ty,pos,af,some (j,pol)⟩::rest) tm H K:=
 S.skip (by simp only[Bb,hj,hc,hp]) hN h
theorem p6q{r:AV}(hc:evT tm x=some (.val (.bool true)))(hr:evT tm y=some r)(hN:LN d N)(h:Reg m P N ops rest ((d,r)::tm) H K):Reg m P N ops (⟨some d,.pick x y z,ty,pos,af,none⟩::rest) tm H K:=S.pickT hc rfl hr hN h
theorem p5u{r:AV}(hc:evT tm x=some (.val (.bool false)))(hr:evT tm z=some r)(hN:LN d N)(h:Reg m P N ops rest ((d,r)::tm) H K):Reg m P N ops (⟨some d,.pick x y z,ty,pos,af,none⟩::rest) tm H K:=S.pickF hc rfl hr hN h
theorem p6t{Q:Exit->St->Prop}{a b:Code}{c:Operand}(hc:St.ev ⟨tm,H⟩ c=some (.val (.bool true)))(h:T P N a ⟨tm,H⟩ Q):T P N (.cond c a b) ⟨tm,H⟩ Q:=T.cond hc (fun _=>h) fun hf=>by cases hf
theorem p6j{Q:Exit->St->Prop}{a b:Code}{c:Operand}(hc:St.ev ⟨tm,H⟩ c=some (.val (.bool false)))(h:T P N b ⟨tm,H⟩ Q):T P N (.cond c a b) ⟨tm,H⟩ Q:=T.cond hc (fun hf=>by cases hf) fun _=>h
/-! The end of a function. -/
theorem E5{fn:Func}{t0:Nat}{x r:AV}{e:Exit}(he:e=.normal\/e=.ret)(hr:fn.results= #[.tmp t0])(h:tm.get t0=some x)(ho:Out H x r):Ao P fn r e ⟨tm,H⟩:=⟨he,[x],by rw[hr];exact .cons (.tmp h) .nil,ho⟩
theorem Aja{fn:Func}{t0:Nat}{v v':Value}{e:Exit}(he:e=.normal\/e=.ret)(hr:fn.results= #[.tmp t0])(h:tm.get t0=some (.val v))(hv:v=v'):Ao P fn (.val v') e ⟨tm,H⟩:=E5 he hr h (hv▸.one (.one (.lf _)))
theorem S.build{ps:Array (Nat×Operand)}{l:List (Nat×Nat)}{zs:Array Value}{ys:List (Nat×AV)}{out:List AV}[hl:HasL P t l][hz:HasZ P t (.agg zs)](hy:Ew (evT tm) ps.toList=some ys)(ho:Hl (fun(i:Nat)=>l[i]?) ys (zs.toList.map .val)=some out)(hN:LN d N)(h:Reg m P N ops rest ((d,.agg out)::tm) H K):Reg m P N ops (⟨some d,.build t ps,ty,pos,af,none⟩::rest) tm H K:=by
 refine S.val (OpV.mk fun L w ρ η hη hH=>?_) hN h
 obtain⟨fs,h1,h2⟩:=hl.out
 obtain⟨g1,g2⟩:=Ks (w:=w) (L:=L) (ρ:=ρ) hy fun x hx y he=>hη x (by simpa[Op.operands]using hx) y he
 have hc:I9 w L ρ (zs.toList.map .val) zs:=⟨by simp,fun j x hx=>by
  rw[a0d]at hx
  cases e:zs.toList[j]? with
  |none=>rw[e]at hx;cases hx
  |some v=>
   rw[e]at hx
   simp at hx
   subst hx
   exact⟨v,by simpa using e,Ab v⟩⟩
 obtain⟨r,h3,h4,h5⟩:=Ju ys _ _ zs out g1 g2 hc ho
 refine⟨.agg r,?_,?_⟩
 ·have hplace:(fun(i:Nat)=>l.toArray[i]?)=(fun(i:Nat)=>l[i]?):=by funext i;simp
  simp only[execOp,Instr.build,a0t,Gc hz.out,run_underlying h1,a0o,h2,Value.cells]
  rw[hplace,h3]
  simp only[a1m,a0o]
 ·have:r=r.toList.toArray:=by simp
  rw[this]
  refine .agg out r.toList (by simpa using h4) fun i x v hx hv=>?_
  obtain⟨v',h6,h7⟩:=h5 i x hx
  simp only[a7j]at hv
  rw[h6]at hv
  injection hv with hv
  subst hv
  exact h7
end
structure Rest(p:Prop):Prop where
 out:p
theorem W{G R:Prop}(r:R)(h:Rest R->G:=by
 intro r
 first
  |(apply S.move;exact rfl;exact rfl)
  |(apply S.assign;exact rfl;exact rfl)
  |(apply p6o;(iterate 3 exact rfl))
  |(apply p5s;(iterate 4 exact rfl))
  |(apply p6p;(iterate 3 exact rfl))
  |(apply p5g;exact rfl;exact rfl;assumption)
  |(apply p4s;exact rfl;exact rfl;assumption;exact rfl)
  |(apply p4q;exact rfl;exact rfl;assumption)
  |(apply p5f;exact rfl;exact rfl;assumption;exact rfl)
  |(apply p4t;exact rfl;exact rfl;assumption;exact rfl)
  |(apply p4r;exact rfl;exact rfl;assumption)
  |(apply S.fieldP;(iterate 3 exact rfl))
  |(apply S.loadP;(iterate 4 exact rfl))
  |(apply S.fieldR;exact rfl;exact rfl)
  |(apply S.loadR;(iterate 3 exact rfl))
  |(apply p6q;(iterate 3 exact rfl))
  |(apply p5u;(iterate 3 exact rfl))
  |(apply p5h;exact rfl;assumption;exact rfl;exact rfl)
  |(apply p4w;exact rfl;assumption;exact rfl;exact rfl)
  |(apply p5v;exact rfl;assumption;exact rfl;exact rfl)
 exact r.out):G:=h ⟨r⟩
theorem V{G R:Prop}(r:R)(h:Rest R->G:=by
 intro r
 first
  |(apply S.loadPA;(iterate 4 exact rfl))
  |(apply S.loadRA;(iterate 4 exact rfl))
  |(apply S.box;(iterate 6 exact rfl))
  |(apply S.alloc;(iterate 5 exact rfl))
  |(apply S.store;(iterate 7 exact rfl))
  |(apply p3u;(iterate 8 exact rfl))
  |(apply p6a;(iterate 4 exact rfl))
  |(apply S.strEq;(iterate 3 exact rfl))
  |(apply S.strNe;(iterate 3 exact rfl))
  |(apply p5n;exact rfl;exact rfl)
  |(apply S.not;(iterate 3 exact rfl))
  |(apply S.extract;(iterate 3 exact rfl))
  |(apply S.lenR;exact rfl;exact rfl)
  |(apply S.lenS;exact rfl;exact rfl)
  |(apply S.makeFunc;exact rfl;exact rfl)
  |(apply S.build;(iterate 3 exact rfl))
  |(apply p3f;exact rfl;exact rfl)
  |(apply p3e;(iterate 3 exact rfl))
  |apply S.nil
  |apply p5r
  |apply p6l
  |(apply p6t;exact rfl)
  |(apply p6j;exact rfl)
  |(apply p6w;exact rfl;assumption)
  |(apply p6u;exact rfl;assumption)
  |(apply p6k;exact rfl;assumption)
  |apply T.seq
  |(apply T.skip;first|change T _ _ _ _ _|change Ao _ _ _ _ _|change Next _ _ _ _ _ _|skip)
  |(apply T.ret;change Ao _ _ _ _ _)
  |(apply T.exit;first|change T _ _ _ _ _|change Ao _ _ _ _ _|change Next _ _ _ _ _ _|skip)
  |apply T.block
 exact r.out):G:=h ⟨r⟩
theorem W2{G A B:Prop}(a:A)(b:B)(h:Rest A->Rest B->G:=by
 intro a b
 first
  |(apply p6e;(iterate 3 exact rfl))
  |(apply p6c;(iterate 3 exact rfl))
  |(apply p6d;(iterate 3 exact rfl))
  |(apply p6b;(iterate 3 exact rfl))
  |(apply p6r;(iterate 4 exact rfl))
  |(apply p6i;(iterate 4 exact rfl))
  |(apply p6s;exact rfl)
  |(apply p6v;exact rfl)
 exact a.out
 exact b.out):G:=h ⟨a⟩ ⟨b⟩
theorem CV{tm tm':Tm}{n:Nat}(h:Cov tm n tm':=by repeat' (first|exact Cov.nil|(apply Cov.cons;exact rfl;exact rfl))):Cov tm n tm':=h
theorem CH{H H':AH}{n:Nat}(h:CovH n H H':=by repeat' (first|exact CovH.nil|apply CovH.dead|(apply CovH.live;exact rfl)|apply CovH.map)):CovH n H H':=h
theorem A0w{i j:Nat}(h:i<j):Nat.blt i j=true:=a3f h
theorem A94{i j:Nat}(h:¬i<j):Nat.blt i j=false:=by
 cases e:Nat.blt i j with
 |false=>rfl
 |true=>exact absurd (a0c e) h
def Wd(ops:Array Oper)(pre:Array Nat)(n:Nat):Bool:=(List.range n).all fun j=>(List.range n).all fun i=> !(pre.getD j 0).testBit i||
 (match ops[j]? with|some o=>o.after.any (fun e=>Region.binds .any e&&Nat.blt e.on j&&(e.on==i||(pre.getD e.on 0).testBit i))|none=>false)
def A14(ops:Array Oper)(pre:Array Nat)(n:Nat):Bool:=(List.range n).all fun j=>(List.range j).all fun i=>
 (match ops[i]?,ops[j]? with|some x,some y=>Oper.apart ops x y|_,_=>false)||(pre.getD j 0).testBit i
def Acf(ops:Array Oper)(n:Nat):Bool:=decide (n=ops.size)||(decide (n<ops.size)&&Region.sinkB .any ops n&&Region.chainB .any ops n)
def Aiv(ops:Array Oper)(n:Nat):Bool:=Region.seqB .any ops (ops.size-n) n ((Array.range ops.size).map fun i=>decide (i<n))
def A4w(ops:Array Oper)(n:Nat):Bool:=(List.range n).all fun j=>match ops[j]? with|some o=>o.after.all (fun e=> !Region.binds .any e||Nat.blt e.on j)|none=>false
def A8d(ops:Array Oper)(pre:Array Nat)(n:Nat):Bool:=(List.range n).all fun j=>match ops[j]? with
 |some y=> !K8 y.op||(List.range j).all fun i=>match ops[i]? with
  |some x=> !(R3 x.op||K8 x.op)||(pre.getD j 0).testBit i
  |none=>false
 |none=>false
def A72(ops:Array Oper)(pre:Array Nat)(n:Nat):Bool:=(List.range n).all fun j=>match ops[j]? with
 |some y=> !M4 y.op||(List.range j).all fun i=>match ops[i]? with
  |some x=> !M4 x.op||(pre.getD j 0).testBit i
  |none=>false
 |none=>false
def I1(ops:Array Oper)(n:Nat):Bool:=A72 ops (Region.before ops) n&&A4w ops n&&Wd ops (Region.before ops) n&&A14 ops (Region.before ops) n&&A8d ops (Region.before ops) n&&Acf ops n&&Aiv ops n&&decide (n<=ops.size)

section
variable {ops:Array Oper}{pre:Array Nat}{n:Nat}
theorem We(h:Wd ops pre n=true){listed:Array Bool}(inv:HeadInv .any ops n listed):∀j,j<n->∀i,i<n->(pre.getD j 0).testBit i=true->listed.getD j false=true->listed.getD i false=true:=by
 intro j
 induction j using Nat.strongRecOn with
 |_ j ih=>
  intro hj i hi hb hl
  have h1:=a0l.1 (a0l.1 h j (a2n.2 hj)) i (a2n.2 hi)
  simp only[hb,a4r,a5c]at h1
  split at h1
  ·rename_i o ho
   rw[Array.any_eq_true]at h1
   obtain⟨k,hk,h1⟩:=h1
   simp only[a0w,a5k,beq_iff_eq]at h1
   obtain⟨⟨h2,h3⟩,h4⟩:=h1
   have hc:=inv.closed j o ho hl _ (a9q hk) h2
   have hlt:o.after[k].on<j:=a0c h3
   rcases h4 with h4|h4
   ·rw[<-h4];exact hc
   ·exact ih _ hlt (by omega) i hi h4 hc
  ·cases h1
theorem Kl(h:Wd ops pre n=true){listed:Array Bool}(inv:HeadInv .any ops n listed){j:Nat}(hj:j<n)(hr:j∈Region.ready .any ops listed){i:Nat}(hi:i<n)(hb:(pre.getD j 0).testBit i=true):listed.getD i false=true:=by
 have h1:=a0l.1 (a0l.1 h j (a2n.2 hj)) i (a2n.2 hi)
 simp only[hb,a4r,a5c]at h1
 obtain⟨_,o,ho,hall⟩:=mem_ready.1 hr
 rw[ho]at h1
 simp only[]at h1
 rw[Array.any_eq_true]at h1
 obtain⟨k,hk,h1⟩:=h1
 simp only[a0w,a5k,beq_iff_eq]at h1
 obtain⟨⟨h2,h3⟩,h4⟩:=h1
 have hc:=hall _ (a9q hk) h2
 have hlt:o.after[k].on<j:=a0c h3
 rcases h4 with h4|h4
 ·rw[<-h4];exact hc
 ·exact We h inv _ (by omega) i hi h4 hc

def wr(ops:Array Oper)(ss:List Sp)(tm:Tm)(listed:Nat->Bool)(t:Nat):Nat->Option AV
 |0=>tm.get t
 |k+1=>if listed k=true/\(ops[k]?).bind (·.dst)=some t then(ss[k]?).map Sp.res else wr ops ss tm listed t k
def hp(ss:List Sp)(H:AH)(listed:Nat->Bool)(b:Nat):Nat->HB
 |0=>H.at b
 |k+1=>match(ss[k]?).bind Sp.eff with
  |some (b',cs)=>if listed k=true/\b'=b then cs else hp ss H listed b k
  |none=>hp ss H listed b k
theorem Kb{ss:List Sp}{tm:Tm}{l l':Nat->Bool}{t:Nat}:∀k,(∀i,i<k->(ops[i]?).bind (·.dst)=some t->l i=l' i)->wr ops ss tm l t k=wr ops ss tm l' t k
 |0,_=>rfl
 |k+1,h=>by
  simp only[wr]
  rw[Kb k fun i hi=>h i (by omega)]
  by_cases e:(ops[k]?).bind (·.dst)=some t
  ·rw[h k (by omega) e]
  ·simp[e]
theorem J4{ss:List Sp}{tm:Tm}{l:Nat->Bool}{t k:Nat}:∀n,k<=n->(∀i,k<=i->i<n->(ops[i]?).bind (·.dst)=some t->l i=false)->wr ops ss tm l t n=wr ops ss tm l t k
 |0,hk,_=>by rw[show k=0 by omega]
 |n+1,hk,h=>by
  by_cases e:k=n+1
  ·rw[e]
  ·simp only[wr]
   rw[if_neg fun⟨h1,h2⟩=>by rw[h n (by omega) (by omega) h2]at h1;cases h1]
   exact J4 n (by omega) fun i h1 h2=>h i h1 (by omega)
theorem Jw{ss:List Sp}{H:AH}{l l':Nat->Bool}{b:Nat}:∀k,(∀i cs,i<k->(ss[i]?).bind Sp.eff=some (b,cs)->l i=l' i)->hp ss H l b k=hp ss H l' b k
 |0,_=>rfl
 |k+1,h=>by
  simp only[hp]
  rw[Jw k fun i cs hi=>h i cs (by omega)]
  split
  ·rename_i b' cs hs
   by_cases e:b'=b
   ·subst e;rw[h k cs (by omega) hs]
   ·simp[e]
  ·rfl
end

section
variable {P:Program}{N n0:Nat}{ops:Array Oper}{tm0:Tm}{H0:AH}
def E7:Nat->Bool:=fun _=>true
theorem O0{tr:List Sp}:∀(l:List Oper)(ss:List Sp)(k:Nat)(tm:Tm)(H:AH),(∀j,j<l.length->ops[k+j]?=l[j]?)->(∀j,j<ss.length->tr[k+j]?=ss[j]?)->Okt P N n0 ops l ss tm H->(∀t,tm.get t=wr ops tr tm0 E7 t k)->(∀b,H.at b=hp tr H0 E7 b k)->
  l.length=ss.length/\(∀j,j<l.length->∃o s tmj Hj,ops[k+j]?=some o/\tr[k+j]?=some s/\(o.dst=none↔s.isSto=true)/\(∀d,o.dst=some d->d<N)/\(∀t,tmj.get t=wr ops tr tm0 E7 t (k+j))/\(∀b,Hj.at b=hp tr H0 E7 b (k+j))/\V7 P n0 ops o tmj Hj s)/\
  (∀t,(N0 l ss tm).get t=wr ops tr tm0 E7 t (k+l.length))/\(∀b,(Qo ss H).at b=hp tr H0 E7 b (k+l.length))
 |[],[],k,tm,H,_,_,_,ht,hH=>⟨rfl,fun j hj=>by simp at hj,ht,hH⟩
 |[],_::_,k,tm,H,_,_,h,_,_=>by cases h
 |_::_,[],k,tm,H,_,_,h,_,_=>by cases h
 |o::l,s::ss,k,tm,H,hl,hs,h,ht,hH=>by
  obtain⟨h1,h2⟩:=h
  have ho:ops[k]?=some o:=by simpa using hl 0 (by simp)
  have hs0:tr[k]?=some s:=by simpa using hs 0 (by simp)
  have hdst:(o.dst=none↔s.isSto=true)/\(∀d,o.dst=some d->d<N)/\Okt P N n0 ops l ss (match o.dst with|some d=>(d,s.res)::tm|none=>tm) (s.heap H):=by
   cases hd:o.dst with
   |none=>
    rw[hd]at h1
    exact⟨⟨fun _=>h1.1,fun _=>rfl⟩,(fun d h=>by cases h),h1.2⟩
   |some d=>
    rw[hd]at h1
    exact⟨⟨(fun h=>by cases h),(fun h=>by rw[h1.2.1]at h;cases h)⟩,(fun d' h=>by injection h with h;subst h;exact h1.1),h1.2.2⟩
  obtain⟨hds,hdN,h1⟩:=hdst
  have ih:=O0 (tr:=tr) l ss (k+1) (match o.dst with|some d=>(d,s.res)::tm|none=>tm) (s.heap H) (fun j hj=>by have:=hl (j+1) (by simp;omega);rw[show k+1+j=k+(j+1) by omega,this];simp) (fun j hj=>by have:=hs (j+1) (by simp;omega);rw[show k+1+j=k+(j+1) by omega,this];simp) h1 (fun t=>by
   cases hd:o.dst with
   |none=>
    simp only[wr,ho,a1v,hd,reduceCtorEq,and_false,if_false]
    exact ht t
   |some d=>
    simp only[]
    rw[p0w]
    simp only[wr,ho,hs0,E7,a1v,hd,a1g,true_and,a0h]
    by_cases e:d=t
    ·rw[if_pos e,if_pos e]
    ·rw[if_neg e,if_neg e];exact ht t) (fun b=>by
   simp only[hp,hs0,a1v]
   cases s with
   |skip=>exact hH b
   |val r=>exact hH b
   |ld r b'=>exact hH b
   |lv r b'=>exact hH b
   |new r b' cs=>
    simp only[Sp.heap,Sp.eff,p0e,E7,true_and]
    by_cases e:b=b'
    ·rw[if_pos e,if_pos e.symm]
    ·rw[if_neg e,if_neg (b3b e)];exact hH b
   |sto b' cs=>
    simp only[Sp.heap,Sp.eff,p0e,E7,true_and]
    by_cases e:b=b'
    ·rw[if_pos e,if_pos e.symm]
    ·rw[if_neg e,if_neg (b3b e)];exact hH b
   |cal r b' k' o' cs=>
    simp only[Sp.heap,Sp.eff,p0e,E7,true_and]
    by_cases e:b=b'
    ·rw[if_pos e,if_pos e.symm]
    ·rw[if_neg e,if_neg (b3b e)];exact hH b)
  obtain⟨i1,i2,i3,i4⟩:=ih
  refine⟨by simp[i1],fun j hj=>?_,fun t=>?_,fun b=>?_⟩
  ·cases j with
   |zero=>exact⟨o,s,tm,H,ho,hs0,hds,hdN,ht,hH,h2⟩
   |succ j=>
    obtain⟨o',s',tmj,Hj,g1,g2,g3,g4,g5,g6,g7⟩:=i2 j (by simpa using hj)
    rw[show k+(j+1)=k+1+j by omega]
    exact⟨o',s',tmj,Hj,g1,g2,g3,g4,g5,g6,g7⟩
  ·rw[show k+(o::l).length=k+1+l.length by simp;omega,<-i3 t]
   rfl
  ·rw[show k+(o::l).length=k+1+l.length by simp;omega,<-i4 b]
   rfl

def AtS(E:Env)(ops:Array Oper)(tr:List Sp)(tm0:Tm)(H0:AH)(n:Nat)(listed:Array Bool)(a:Act)(w:World):Prop:=
 ∃tm H ρ,RelSt E ⟨tm,H⟩ a w ρ/\(∀t,tm.get t=wr ops tr tm0 (fun i=>listed.getD i false) t n)/\∀b,H.at b=hp tr H0 (fun i=>listed.getD i false) b n
theorem It{o:Oper}{tm tm':Tm}(h:∀t∈o.looksAt ops,tm.get t=tm'.get t):∀x∈o.op.operands,∀y,evT tm x=some y->evT tm' x=some y:=fun x hx y hy=>by
 cases x with
 |tmp t=>
  have:t∈o.looksAt ops:=by
   unfold Oper.looksAt
   refine a0p.2 (.inl (List.mem_filterMap.2 ⟨.tmp t,by simpa using hx,rfl⟩))
  simp only[evT]at hy⊢
  rw[<-h t this];exact hy
 |_=>exact hy
theorem A09{o:Oper}{tm tm':Tm}(h:∀t∈o.looksAt ops,tm.get t=tm'.get t):Bb ops o tm=Bb ops o tm':=by
 unfold Bb
 split
 ·rfl
 ·rename_i j pol hg
  split
  ·rfl
  ·rename_i g hj
   have:g∈o.looksAt ops:=by
    unfold Oper.looksAt
    rw[hg]
    refine a0p.2 (.inr ?_)
    simp only[hj]
    simp
   rw[h g this]
theorem Gk{tr:List Sp}{l:Nat->Bool}{b:Nat}:∀k,(∀i cs,i<k->(tr[i]?).bind Sp.eff=some (b,cs)->l i=false)->hp tr H0 l b k=H0.at b
 |0,_=>rfl
 |k+1,h=>by
  simp only[hp]
  split
  ·rename_i b' cs hs
   by_cases e:b'=b
   ·subst e;rw[if_neg (by rw[h k cs (by omega) hs];simp)];exact Gk k fun i cs hi=>h i cs (by omega)
   ·rw[if_neg (by simp[e])];exact Gk k fun i cs hi=>h i cs (by omega)
  ·exact Gk k fun i cs hi=>h i cs (by omega)
theorem Aa1{tr:List Sp}{l:Nat->Bool}{b j:Nat}{cs:HB}(hj:(tr[j]?).bind Sp.eff=some (b,cs))(hl:l j=true):∀k,j<k->(∀i cs,j<i->i<k->(tr[i]?).bind Sp.eff=some (b,cs)->l i=false)->hp tr H0 l b k=cs
 |0,h,_=>by omega
 |k+1,h,hu=>by
  by_cases e:j=k
  ·subst e;simp only[hp,hj];rw[if_pos (by simp[hl])]
  ·have ih:=Aa1 hj hl k (by omega) fun i cs h1 h2=>hu i cs h1 (by omega)
   simp only[hp]
   split
   ·rename_i b' cs' hs
    by_cases e2:b'=b
    ·subst e2;rw[if_neg (by rw[hu k cs' (by omega) (by omega) hs];simp)];exact ih
    ·rw[if_neg (by simp[e2])];exact ih
   ·exact ih
theorem A18{s:Option Sp}{b:Nat}{cs:HB}(h:s.bind Sp.eff=some (b,cs)):cs≠.free:=by
 cases s with
 |none=>cases h
 |some s=>cases s<;>simp only[a1v,Sp.eff,a0h,a1p,reduceCtorEq]at h<;>(rw[<-h.2];simp)
theorem Se{tr:List Sp}{l:Nat->Bool}{b j:Nat}{cs:HB}(hj:(tr[j]?).bind Sp.eff=some (b,cs))(hl:l j=true):∀k,j<k->hp tr H0 l b k≠.free
 |0,h=>by omega
 |k+1,h=>by
  by_cases e:j=k
  ·subst e;simp only[hp,hj];rw[if_pos (by simp[hl])];exact A18 hj
  ·have ih:=Se hj hl k (by omega)
   simp only[hp]
   split
   ·rename_i b' cs' hs
    by_cases e2:l k=true/\b'=b
    ·rw[if_pos e2];exact A18 hs
    ·rw[if_neg e2];exact ih
   ·exact ih
theorem Vs{tr:List Sp}{l:Nat->Bool}{b:Nat}:∀n k,k<=n->(∀i cs,i<k->(tr[i]?).bind Sp.eff=some (b,cs)->l i=true)->(∀i cs,k<=i->i<n->(tr[i]?).bind Sp.eff=some (b,cs)->l i=false)->hp tr H0 l b n=hp tr H0 E7 b k
 |n,k,hk,h1,h2=>by
  induction n with
  |zero=>rw[show k=0 by omega];rfl
  |succ n ih=>
   by_cases e:k=n+1
   ·subst e
    exact Jw _ fun i cs hi h=>by rw[h1 i cs hi h];rfl
   ·simp only[hp]
    split
    ·rename_i b' cs hs
     by_cases e2:b'=b
     ·subst e2;rw[if_neg (by rw[h2 n cs (by omega) (by omega) hs];simp)];exact ih (by omega) fun i cs a c=>h2 i cs a (by omega)
     ·rw[if_neg (by simp[e2])];exact ih (by omega) fun i cs a c=>h2 i cs a (by omega)
    ·exact ih (by omega) fun i cs a c=>h2 i cs a (by omega)
theorem L4{listed:Array Bool}{j:Nat}(h:j<listed.size)(d:Bool):(listed.setIfInBounds j true).getD j d=true:=by simp[h]
def Mt(P:Program)(N n0:Nat)(ops:Array Oper)(tr:List Sp)(tm0:Tm)(H0:AH)(n:Nat):Prop:=
 ∀j,j<n->∃o s tmj Hj,ops[j]?=some o/\tr[j]?=some s/\(o.dst=none↔s.isSto=true)/\(∀d,o.dst=some d->d<N)/\(∀t,tmj.get t=wr ops tr tm0 E7 t j)/\(∀b,Hj.at b=hp tr H0 E7 b j)/\V7 P n0 ops o tmj Hj s
theorem Yj{tr:List Sp}{n:Nat}{pre:Array Nat}{E:Env}(hpb:pre=Region.before ops)(F:Mt P N n0 ops tr tm0 H0 n)(hpre:Wd ops pre n=true)(hconf:A14 ops pre n=true)(hsto:A8d ops pre n=true)(hcal:A72 ops pre n=true)(hn:n<=ops.size)(hE:E.N=N){listed:Array Bool}(inv:HeadInv .any ops n listed){j:Nat}(hj:j<n)(hr:j∈Region.ready .any ops listed)
  {a:Act} {w:World} (hA:AtS E ops tr tm0 H0 n listed a w) {Q:Exit->Act->World->Prop}:wpOp P ops Q j (fun a' w'=>AtS E ops tr tm0 H0 n (listed.setIfInBounds j true) a' w') a w:=by
 obtain⟨tm,H,ρ,hst,htm,hH⟩:=hA
 obtain⟨o,s,tmj,Hj,ho,hs,hds,hdN,htj,hHj,hok⟩:=F j hj
 have hjs:j<listed.size:=by rw[inv.size];omega
 have hun:listed.getD j false=false:=getD_both (mem_ready.1 hr).1
 --what is not ordered is apart
 have conf:∀{i k:Nat}{x y:Oper},i<k->k<n->ops[i]?=some x->ops[k]?=some y->Oper.apart ops x y=true\/(pre.getD k 0).testBit i=true:=fun {i k x y} hik hk hx hy=>by
  have h1:=a0l.1 (a0l.1 hconf k (a2n.2 hk)) i (a2n.2 hik)
  simp only[hx,hy,a5k]at h1
  exact h1
 have opOf:∀{i t:Nat},(ops[i]?).bind (·.dst)=some t->∃x,ops[i]?=some x/\x.dst=some t:=fun {i t} h=>by
  cases e:ops[i]? with
  |none=>rw[e]at h;cases h
  |some x=>rw[e]at h;exact⟨x,rfl,h⟩
 have hnot:∀{i:Nat},j<i->i<n->(pre.getD i 0).testBit j=true->listed.getD i false=false:=fun {i} h1 h2 hb=>by
  cases e:listed.getD i false with
  |false=>rfl
  |true=>have:=We hpre inv i h2 j hj hb e;rw[hun]at this;cases this
 have hlook:∀t∈o.looksAt ops,tm.get t=tmj.get t:=fun t ht=>by
  rw[htm t,htj t,J4 (k:=j) n (by omega) fun i h1 h2 h3=>?_]
  ·refine Kb j fun i hi h3=>?_
   obtain⟨x,hx,hxd⟩:=opOf h3
   rcases conf hi hj hx ho with h4|h4
   ·exact absurd ht ((b0r h4).1 t hxd)
   ·exact Kl hpre inv hj hr (by omega) h4
  ·by_cases e:i=j
   ·subst e;exact hun
   ·obtain⟨x,hx,hxd⟩:=opOf h3
    rcases conf (show j<i by omega) h2 ho hx with h4|h4
    ·exact absurd ht ((b0r h4).2.2 t hxd)
    ·exact hnot (by omega) h2 h4
 --what touches a block
 have effAt:∀{i b:Nat}{cs:HB},i<n->(tr[i]?).bind Sp.eff=some (b,cs)->∃(o':Oper)(Hi:AH),ops[i]?=some o'/\(∀b,Hi.at b=hp tr H0 E7 b i)/\((n0<=b/\((R3 o'.op=true/\Hi.at b=.free)\/K8 o'.op=true))\/(b<n0/\M4 o'.op=true/\cs.isHot=true/\(Hi.at b).isHot=true)):=fun {i b cs} hi h=>by
  obtain⟨o',s',tmi,Hi,ho',hs',_,_,_,hHi,hok'⟩:=F i hi
  rw[hs']at h
  cases s' with
  |skip=>simp[Sp.eff]at h
  |val r=>simp[Sp.eff]at h
  |ld r b'=>simp[Sp.eff]at h
  |lv r b'=>simp[Sp.eff]at h
  |new r b' cs'=>
   simp only[a1v,Sp.eff,a0h,a1p]at h
   obtain⟨rfl,rfl⟩:=h
   exact⟨o',Hi,ho',hHi,.inl ⟨hok'.2.2.2.1,.inl ⟨hok'.2.2.2.2,hok'.2.2.1⟩⟩⟩
  |sto b' cs'=>
   simp only[a1v,Sp.eff,a0h,a1p]at h
   obtain⟨rfl,rfl⟩:=h
   exact⟨o',Hi,ho',hHi,.inl ⟨hok'.2.2.1,.inr hok'.2.2.2⟩⟩
  |cal r b' k' o2 cs'=>
   simp only[a1v,Sp.eff,a0h,a1p]at h
   obtain⟨rfl,rfl⟩:=h
   obtain⟨_,⟨k1,o1,cs1,h1,_⟩,h2,h3⟩:=hok'
   exact⟨o',Hi,ho',hHi,.inr ⟨h2,h3,rfl,by rw[h1];rfl⟩⟩
 --a block of before that holds cells is touched by none
 have low:∀{b:Nat}{cells:List AV},b<n0->H0.at b=.live cells->∀i cs,i<n->(tr[i]?).bind Sp.eff≠some (b,cs):=fun {b cells} hbn h0 i=>by
  induction i using Nat.strongRecOn with
  |_ i ih=>
   intro cs hi h
   obtain⟨o',Hi,_,hHi,⟨h1,_⟩|⟨_,_,_,h4⟩⟩:=effAt hi h
   ·omega
   ·rw[hHi b,Gk i fun i' cs' hi' h'=>absurd h' (ih i' hi' cs' (by omega)),h0]at h4
    cases h4
 have low2:∀{b k:Nat}{cells:List AV},k<=n->b<n0->hp tr H0 E7 b k=.live cells->H0.at b=.live cells:=fun {b k cells} hk hbn h=>by
  induction k with
  |zero=>exact h
  |succ k ih=>
   simp only[hp]at h
   split at h
   ·rename_i b' cs hs'
    split at h
    ·rename_i e2
     obtain⟨_,rfl⟩:=e2
     obtain⟨_,_,_,_,⟨h1,_⟩|⟨_,_,h3,_⟩⟩:=effAt (show k<n by omega) hs'
     ·omega
     ·rw[h]at h3;cases h3
    ·exact ih (by omega) h
   ·exact ih (by omega) h
 have ordC:∀{i k:Nat}{x y:Oper},i<k->k<n->ops[i]?=some x->ops[k]?=some y->M4 y.op=true->M4 x.op=true->(pre.getD k 0).testBit i=true:=fun {i k x y} hik hk hx hy h1 h2=>by
  have h3:=a0l.1 hcal k (a2n.2 hk)
  rw[hy]at h3
  simp only[h1,a4r,a5c]at h3
  have h4:=a0l.1 h3 i (a2n.2 hik)
  rw[hx]at h4
  simp only[h2,a4r,a5c]at h4
  exact h4
 have ordS:∀{i k:Nat}{x y:Oper},i<k->k<n->ops[i]?=some x->ops[k]?=some y->K8 y.op=true->(R3 x.op||K8 x.op)=true->(pre.getD k 0).testBit i=true:=fun {i k x y} hik hk hx hy h1 h2=>by
  have h3:=a0l.1 hsto k (a2n.2 hk)
  rw[hy]at h3
  simp only[h1,a4r,a5c]at h3
  have h4:=a0l.1 h3 i (a2n.2 hik)
  rw[hx]at h4
  simp only[h2,a4r,a5c]at h4
  exact h4
 have hview':∀b cs,C0 (some n0) Hj b=.live cs->H.at b=.live cs:=fun b cs hb=>by
  have hb':=Adh hb
  have hbn:b<n0:=by
   simp only[C0]at hb
   split at hb
   ·rename_i hh;exact a0c hh
   ·cases hb
  rw[hHj b]at hb'
  have h0:=low2 (by omega) hbn hb'
  rw[hH b,Gk n fun i cs' hi h=>absurd h (low hbn h0 i cs' hi)]
  exact h0
 --the registers behind the step
 have htm':∀(d:Nat),o.dst=some d->∀(v:AV),(tr[j]?).map Sp.res=some v->∀t,Tm.get ((d,v)::tm) t=wr ops tr tm0 (fun i=>(listed.setIfInBounds j true).getD i false) t n:=fun d hd v hv t=>by
  rw[p0w]
  by_cases e:d=t
  ·subst e
   rw[if_pos rfl,J4 (k:=j+1) n (by omega) fun i h1 h2 h3=>?_]
   ·simp only[wr,ho,hd,a1v]
    rw[if_pos ⟨L4 hjs false,by simp⟩]
    exact hv.symm
   ·rw[getD_set_ne false (by omega)]
    obtain⟨x,hx,hxd⟩:=opOf h3
    rcases conf (show j<i by omega) h2 ho hx with h4|h4
    ·exact absurd hxd ((b0r h4).2.1 d hd)
    ·exact hnot (by omega) h2 h4
  ·rw[if_neg e,htm t]
   refine Kb n fun i hi h3=>?_
   have:j≠i:=fun e2=>by
    subst e2
    rw[ho]at h3
    simp only[a1v,hd,a0h]at h3
    exact e h3
   rw[getD_set_ne false this]
 have hH':s.eff=none->∀b,H.at b=hp tr H0 (fun i=>(listed.setIfInBounds j true).getD i false) b n:=fun hne b=>by
  rw[hH b]
  refine Jw n fun i cs hi h=>?_
  have:j≠i:=fun e2=>by
   subst e2
   rw[hs]at h
   simp only[a1v,hne]at h
   cases h
  rw[getD_set_ne false this]
 --behind a step that touches block b
 have hE':∀(b:Nat)(cs:HB),s.eff=some (b,cs)->(∀i cs',j<i->i<n->(tr[i]?).bind Sp.eff=some (b,cs')->listed.getD i false=false)->∀b',(H.put b cs).at b'=hp tr H0 (fun i=>(listed.setIfInBounds j true).getD i false) b' n:=fun b cs hse hl b'=>by
  rw[p0e]
  by_cases e:b'=b
  ·subst e
   rw[if_pos rfl,Aa1 (j:=j) (by rw[hs];exact hse) (L4 hjs false) n hj fun i cs' h1 h2 h=>by rw[getD_set_ne false (by omega)];exact hl i cs' h1 h2 h]
  ·rw[if_neg e,hH b']
   refine Jw n fun i cs' hi h=>?_
   have:j≠i:=fun e2=>by
    subst e2
    rw[hs]at h
    simp only[a1v,hse,a0h,a1p]at h
    exact e h.1.symm
   rw[getD_set_ne false this]
 have hg:Bb ops o tm=Bb ops o tmj:=A09 hlook
 have hres:(tr[j]?).map Sp.res=some s.res:=by rw[hs];rfl
 have someD:s.isSto=false->∃d,o.dst=some d/\d<N:=fun h=>by
  cases hd:o.dst with
  |none=>rw[hds.1 hd]at h;cases h
  |some d=>exact⟨d,rfl,hdN d hd⟩
 unfold wpOp
 rw[ho]
 simp only[]
 cases s with
 |skip=>
  obtain⟨d,hd,hdN⟩:=someD rfl
  have hw:=Ck (ops:=ops) hst (hg.trans hok)
  rw[if_neg (by simp[hw]),hd]
  exact⟨_,H,ρ,hst.put (by rw[hE];exact hdN) (Ab _),htm' d hd _ hres,hH' rfl⟩
 |val r=>
  obtain⟨d,hd,hdN⟩:=someD rfl
  have hw:=Ck (ops:=ops) hst (hg.trans hok.1)
  rw[if_pos hw]
  refine .inl (hok.2 E ⟨tm,H⟩ a w ρ _ _ hst (fun x hx y hy=>by rw[Am];exact It (fun t ht=>(hlook t ht).symm) x hx y hy) hview' (fun _ _ h=>by cases h) fun w' ρ' v hr' hv=>?_)
  rw[hd]
  exact⟨_,H,ρ',hr'.put (by rw[hE];exact hdN) hv,htm' d hd _ hres,hH' rfl⟩
 |ld r b=>
  obtain⟨d,hd,hdN⟩:=someD rfl
  have hw:=Ck (ops:=ops) hst (hg.trans hok.1)
  rw[if_pos hw]
  obtain⟨cells,hlj,hv⟩:=hok.2.1
  obtain⟨d',hd',hld⟩:=hok.2.2
  have hord:∀{i:Nat}{b:Nat}{cs:HB},i<n->(tr[i]?).bind Sp.eff=some (b,cs)->(i<j->(pre.getD j 0).testBit i=true)/\(j<i->(pre.getD i 0).testBit j=true):=fun {i b cs} hi h=>by
   obtain⟨o',Hi,ho',hHi,h3⟩:=effAt hi h
   have hwr:Afi o'.op=true:=by
    unfold Afi
    rcases h3 with⟨_,⟨h4,_⟩|h4⟩|⟨_,h4,_⟩<;>simp[h4]
   have h5:=a0l.1 hld j (a2n.2 (by omega))
   rw[ho]at h5
   simp only[hd',beq_self_eq_true,a4r,a5c]at h5
   have h6:=a0l.1 h5 i (a2n.2 (by omega))
   rw[ho']at h6
   simp only[hwr,a4r,a5c,<-hpb]at h6
   refine⟨fun hij=>?_,fun hji=>?_⟩
   ·rw[A0w hij]at h6
    exact h6
   ·rw[A94 (show ¬i<j by omega),A0w hji]at h6
    exact h6
  have hlive:H.at b=.live cells:=by
   rw[hH b,Vs n j (by omega) (fun i cs' hi h=>Kl hpre inv hj hr (by omega) ((hord (by omega) h).1 hi)) (fun i cs' h1 h2 h=>?_),<-hHj b]
   ·exact hlj
   ·by_cases e:i=j
    ·subst e;exact hun
    ·exact hnot (by omega) h2 ((hord h2 h).2 (by omega))
  refine .inl (hv E ⟨tm,H⟩ a w ρ _ _ hst (fun x hx y hy=>by rw[Am];exact It (fun t ht=>(hlook t ht).symm) x hx y hy) (fun b' cs' hb'=>?_) (fun _ _ h=>by cases h) fun w' ρ' v hr' hv=>?_)
  ·dsimp only at hb'
   by_cases e:b'=b
   ·rw[if_pos e]at hb'
    rw[e,<-hb']
    exact hlive
   ·rw[if_neg e]at hb';cases hb'
  ·rw[hd]
   exact⟨_,H,ρ',hr'.put (by rw[hE];exact hdN) hv,htm' d hd _ hres,hH' rfl⟩
 |lv r b=>
  obtain⟨d,hd,hdN⟩:=someD rfl
  have hw:=Ck (ops:=ops) hst (hg.trans hok.1)
  rw[if_pos hw]
  obtain⟨⟨cells,hlj⟩,hv,hmk⟩:=hok.2
  have noM:∀{i:Nat}{x:Oper},i<n->ops[i]?=some x->R3 x.op=false:=fun {i x} hi hx=>by
   have h5:=a0l.1 hmk i (a2n.2 (by omega))
   rw[hx]at h5
   simpa using h5
  have back:∀(k:Nat)(cells:List AV),k<=n->hp tr H0 E7 b k=.live cells->∃cells,H0.at b=.live cells:=fun k=>by
   induction k using Nat.strongRecOn with
   |_ k ih=>
    intro cells hk h
    cases k with
    |zero=>exact⟨cells,h⟩
    |succ k=>
     simp only[hp]at h
     split at h
     ·rename_i b' cs hs'
      split at h
      ·rename_i e2
       obtain⟨_,rfl⟩:=e2
       obtain⟨o',s',tmi,Hi,ho',hs2,_,_,_,hHi,hok'⟩:=F k (by omega)
       rw[hs2]at hs'
       cases s' with
       |skip=>simp[Sp.eff]at hs'
       |val r=>simp[Sp.eff]at hs'
       |ld r b'=>simp[Sp.eff]at hs'
       |lv r b'=>simp[Sp.eff]at hs'
       |new r b2 cs'=>
        have:=hok'.2.2.2.2
        rw[noM (by omega) ho']at this
        cases this
       |sto b2 cs'=>
        simp only[a1v,Sp.eff,a0h,a1p]at hs'
        obtain⟨rfl,_⟩:=hs'
        obtain⟨c0,hc0,_⟩:=hok'.2.1
        exact ih k (by omega) c0 (by omega) (by rw[<-hHi];exact hc0)
       |cal r b2 k' o2 cs'=>
        simp only[a1v,Sp.eff,a0h,a1p]at hs'
        obtain⟨_,rfl⟩:=hs'
        cases h
      ·exact ih k (by omega) cells (by omega) h
     ·exact ih k (by omega) cells (by omega) h
  have stay:∀(l:Nat->Bool)(k:Nat),k<=n->∃cells,hp tr H0 l b k=.live cells:=fun l k=>by
   obtain⟨c0,hc0⟩:=back j cells (by omega) (by rw[<-hHj b];exact hlj)
   induction k using Nat.strongRecOn generalizing l with
   |_ k ih=>
    intro hk
    cases k with
    |zero=>exact⟨c0,hc0⟩
    |succ k=>
     simp only[hp]
     split
     ·rename_i b' cs hs'
      split
      ·rename_i e2
       obtain⟨_,rfl⟩:=e2
       obtain⟨o',Hi,ho',hHi,⟨_,⟨h4,_⟩|h4⟩|⟨_,_,_,h4⟩⟩:=effAt (by omega) hs'
       ·rw[noM (by omega) ho']at h4;cases h4
       ·obtain⟨o',s',tmi,Hi,ho',hs2,_,_,_,hHi,hok'⟩:=F k (by omega)
        rw[hs2]at hs'
        cases s' with
        |skip=>simp[Sp.eff]at hs'
        |val r=>simp[Sp.eff]at hs'
        |ld r b'=>simp[Sp.eff]at hs'
        |lv r b'=>simp[Sp.eff]at hs'
        |new r b2 cs'=>
         simp only[a1v,Sp.eff,a0h,a1p]at hs'
         exact⟨_,hs'.2.symm⟩
        |sto b2 cs'=>
         simp only[a1v,Sp.eff,a0h,a1p]at hs'
         exact⟨_,hs'.2.symm⟩
        |cal r b2 k' o2 cs'=>
         obtain⟨_,⟨k1,o1,cs1,h1,_⟩,_,_⟩:=hok'
         simp only[a1v,Sp.eff,a0h,a1p]at hs'
         obtain⟨rfl,_⟩:=hs'
         obtain⟨c1,hc1⟩:=ih k (by omega) E7 (by omega)
         rw[hHi,hc1]at h1
         cases h1
       ·rw[hHi]at h4
        obtain⟨c1,hc1⟩:=ih k (by omega) E7 (by omega)
        rw[hc1]at h4
        cases h4
      ·exact ih k (by omega) l (by omega)
     ·exact ih k (by omega) l (by omega)
  obtain⟨c1,hlive⟩:∃c,H.at b=.live c:=by
   rw[hH b]
   exact stay _ n (a0n _)
  refine .inl (hv c1 E ⟨tm,H⟩ a w ρ _ _ hst (fun x hx y hy=>by rw[Am];exact It (fun t ht=>(hlook t ht).symm) x hx y hy) (fun b' cs' hb'=>?_) (fun _ _ h=>by cases h) fun w' ρ' v hr' hv=>?_)
  ·dsimp only at hb'
   by_cases e:b'=b
   ·rw[if_pos e]at hb'
    rw[e,<-hb']
    exact hlive
   ·rw[if_neg e]at hb';cases hb'
  ·rw[hd]
   exact⟨_,H,ρ',hr'.put (by rw[hE];exact hdN) hv,htm' d hd _ hres,hH' rfl⟩
 |new r b cs=>
  obtain⟨d,hd,hdN⟩:=someD rfl
  have hw:=Ck (ops:=ops) hst (hg.trans hok.1)
  rw[if_pos hw]
  have hfj:=hok.2.2.1
  --nothing before in the text touches b;what comes later is behind
  have early:∀i cs',i<j->(tr[i]?).bind Sp.eff≠some (b,cs'):=fun i cs' hi h=>
   Se (H0:=H0) (l:=E7) h rfl j hi (by rw[<-hHj b];exact hfj)
  have late:∀i cs',j<i->i<n->(tr[i]?).bind Sp.eff=some (b,cs')->listed.getD i false=false:=fun i cs' h1 h2 h=>by
   obtain⟨o',Hi,ho',hHi,⟨_,⟨_,h4⟩|h4⟩|⟨h4,_⟩⟩:=effAt h2 h
   ·exact absurd h4 (by rw[hHi b];exact Se (H0:=H0) (l:=E7) (cs:=.live cs) (j:=j) (by rw[hs];rfl) rfl i h1)
   ·exact hnot h1 h2 (ordS h1 h2 ho ho' h4 (by rw[hok.2.2.2.2];rfl))
   ·have:=hok.2.2.2.1
    omega
  have hfree:H.at b=.free:=by
   rw[hH b,Vs n j (by omega) (fun i cs' hi h=>absurd h (early i cs' hi)) (fun i cs' h1 h2 h=>?_),<-hHj b]
   ·exact hfj
   ·by_cases e:i=j
    ·subst e;exact hun
    ·exact late i cs' (by omega) h2 h
  refine .inl (hok.2.1 E ⟨tm,H⟩ a w ρ _ _ hst (fun x hx y hy=>by rw[Am];exact It (fun t ht=>(hlook t ht).symm) x hx y hy) hview' (fun b' cs' h=>?_) fun w' ρ' v hr' hv=>?_)
  ·injection h with h
   injection h with h _
   subst h
   exact hfree
  ·rw[hd]
   exact⟨_,_,ρ',hr'.put (by rw[hE];exact hdN) hv,htm' d hd _ hres,hE' b _ rfl late⟩
 |sto b cs=>
  have hw:=Ck (ops:=ops) hst (hg.trans hok.1)
  rw[if_pos hw]
  have hd:=hds.2 rfl
  obtain⟨cells,hlj,hv⟩:=hok.2.1
  have hso:=hok.2.2.2
  have early:∀i cs',i<j->(tr[i]?).bind Sp.eff=some (b,cs')->listed.getD i false=true:=fun i cs' hi h=>by
   obtain⟨o',Hi,ho',hHi,h3⟩:=effAt (by omega) h
   refine Kl hpre inv hj hr (by omega) (ordS hi hj ho' ho hso ?_)
   rcases h3 with⟨_,⟨h4,_⟩|h4⟩|⟨h4,_⟩
   ·rw[h4];rfl
   ·rw[h4,b1s]
   ·have:=hok.2.2.1
    omega
  have late:∀i cs',j<i->i<n->(tr[i]?).bind Sp.eff=some (b,cs')->listed.getD i false=false:=fun i cs' h1 h2 h=>by
   obtain⟨o',Hi,ho',hHi,⟨_,⟨_,h4⟩|h4⟩|⟨h4,_⟩⟩:=effAt h2 h
   ·exact absurd h4 (by rw[hHi b];exact Se (H0:=H0) (l:=E7) (cs:=.live cs) (j:=j) (by rw[hs];rfl) rfl i h1)
   ·exact hnot h1 h2 (ordS h1 h2 ho ho' h4 (by rw[hso,b1s]))
   ·have:=hok.2.2.1
    omega
  have hlive:H.at b=.live cells:=by
   rw[hH b,Vs n j (by omega) early (fun i cs' h1 h2 h=>?_),<-hHj b]
   ·exact hlj
   ·by_cases e:i=j
    ·subst e;exact hun
    ·exact late i cs' (by omega) h2 h
  refine .inl (hv E tm H a w ρ _ _ hst (fun x hx y hy=>It (fun t ht=>(hlook t ht).symm) x hx y hy) hlive fun w' hr'=>?_)
  rw[hd]
  refine⟨tm,_,ρ,hr',fun t=>?_,hE' b _ rfl late⟩
  rw[htm t]
  refine Kb n fun i hi h3=>?_
  have:j≠i:=fun e2=>by
   subst e2
   rw[ho]at h3
   simp only[a1v,hd]at h3
   cases h3
  rw[getD_set_ne false this]
 |cal r b k' o2 cs=>
  obtain⟨d,hd,hdN⟩:=someD rfl
  have hw:=Ck (ops:=ops) hst (hg.trans hok.1)
  rw[if_pos hw]
  obtain⟨_,⟨k1,o1,cs1,hlj,hv⟩,hbn,hco⟩:=hok
  have early:∀i cs',i<j->(tr[i]?).bind Sp.eff=some (b,cs')->listed.getD i false=true:=fun i cs' hi h=>by
   obtain⟨o',Hi,ho',hHi,⟨h4,_⟩|⟨_,h4,_⟩⟩:=effAt (by omega) h
   ·omega
   ·exact Kl hpre inv hj hr (by omega) (ordC hi hj ho' ho hco h4)
  have late:∀i cs',j<i->i<n->(tr[i]?).bind Sp.eff=some (b,cs')->listed.getD i false=false:=fun i cs' h1 h2 h=>by
   obtain⟨o',Hi,ho',hHi,⟨h4,_⟩|⟨_,h4,_⟩⟩:=effAt h2 h
   ·omega
   ·exact hnot h1 h2 (ordC h1 h2 ho ho' h4 hco)
  have hlive:H.at b=.hot k1 o1 cs1:=by
   rw[hH b,Vs n j (by omega) early (fun i cs' h1 h2 h=>?_),<-hHj b]
   ·exact hlj
   ·by_cases e:i=j
    ·subst e;exact hun
    ·exact late i cs' (by omega) h2 h
  refine .inl (hv E tm H a w ρ _ _ hst (fun x hx y hy=>It (fun t ht=>(hlook t ht).symm) x hx y hy) hlive fun w' v hr' hv'=>?_)
  rw[hd]
  exact⟨_,_,ρ,hr'.put (by rw[hE];exact hdN) hv',htm' d hd _ hres,hE' b _ rfl late⟩
def cnt(listed:Array Bool):Nat->Nat
 |0=>0
 |k+1=>cnt listed k+(if listed.getD k false=true then 0 else 1)
theorem Xa{listed:Array Bool}{j:Nat}(hj:j<listed.size)(hu:listed.getD j false=false):∀n,cnt (listed.setIfInBounds j true) n+(if j<n then 1 else 0)=cnt listed n
 |0=>rfl
 |k+1=>by
  have ih:=Xa hj hu k
  simp only[cnt]
  by_cases e:j=k
  ·subst e
   rw[L4 hj,hu]
   simp only[if_true,a5b,if_false,Nat.lt_irrefl,a3n]at ih⊢
   omega
  ·rw[getD_set_ne false e]
   by_cases h:j<k
   ·simp only[h,if_true,show j<k+1 from by omega]at ih⊢;omega
   ·simp only[h,if_false,show ¬j<k+1 from by omega]at ih⊢;omega
theorem Om{listed:Array Bool}:∀n,cnt listed n=0->∀k,k<n->listed.getD k false=true
 |0,_,k,hk=>by omega
 |n+1,h,k,hk=>by
  simp only[cnt]at h
  by_cases e:k=n
  ·subst e
   by_cases h2:listed.getD k false=true
   ·exact h2
   ·rw[if_neg h2]at h;omega
  ·exact Om n (by omega) k (by omega)
theorem X9{listed:Array Bool}:∀n,cnt listed n≠0->∃k,k<n/\listed.getD k false=false/\∀i,i<k->listed.getD i false=true
 |0,h=>absurd rfl h
 |n+1,h=>by
  by_cases e:cnt listed n=0
  ·refine⟨n,by omega,?_,fun i hi=>Om n e i hi⟩
   simp only[cnt]at h
   cases e2:listed.getD n false with
   |false=>rfl
   |true=>rw[e2,if_pos rfl]at h;omega
  ·obtain⟨k,h1,h2,h3⟩:=X9 n e
   exact⟨k,by omega,h2,h3⟩
theorem U7{tr:List Sp}{n:Nat}{E:Env}(F:Mt P N n0 ops tr tm0 H0 n)(hB:I1 ops n=true)(hE:E.N=N){Q:Exit->Act->World->Prop}{l:List Oper}(hl:∀j,l[j]?=ops[n+j]?)(hll:l.length=ops.size-n)
  (hfin:∀a w,(∃tm H ρ,RelSt E ⟨tm,H⟩ a w ρ/\(∀t,tm.get t=wr ops tr tm0 E7 t n)/\∀b,H.at b=hp tr H0 E7 b n)->wpList P ops Q l a w):∀(c:Nat)(listed:Array Bool)(a:Act)(w:World),cnt listed n=c->HeadInv .any ops n listed->AtS E ops tr tm0 H0 n listed a w->wpAny P .any ops Q (c+(ops.size-n)) listed a w:=by
 simp only[I1,a0w,decide_eq_true_eq]at hB
 obtain⟨⟨⟨⟨⟨⟨⟨hcal,hed⟩,hpre⟩,hconf⟩,hsto⟩,htail⟩,hfinB⟩,hn⟩:=hB
 intro c
 induction c with
 |zero=>
  intro listed a w hc inv hA
  have hall:=Om n hc
  have N3:listed=(Array.range ops.size).map fun i=>decide (i<n):=by
   apply Array.ext
   ·simp[inv.size]
   ·intro i h1 h2
    simp only[Array.getElem_map,b2m]
    by_cases hi:i<n
    ·have:=hall i hi
     rw[a0r,a2e h1]at this
     simpa[hi]using this
    ·have:=inv.tail i (by omega) (by rw[<-inv.size];exact h1)
     rw[a0r,a2e h1]at this
     simpa[hi]using this
  rw[a1n,<-hll]
  refine wpAny_of_seq l n listed a w hl ?_ ?_
  ·rw[N3,hll];exact hfinB
  ·obtain⟨tm,H,ρ,hr,h1,h2⟩:=hA
   refine hfin a w ⟨tm,H,ρ,hr,fun t=>?_,fun b=>?_⟩
   ·rw[h1 t];exact Kb n fun i hi _=>hall i hi
   ·rw[h2 b];exact Jw n fun i _ hi _=>hall i hi
 |succ c ih=>
  intro listed a w hc inv hA
  obtain⟨k,hk,hku,hkl⟩:=X9 n (by omega:cnt listed n≠0)
  have hkt:listed.getD k true=false:=getD_in (by rw[inv.size];omega) hku
  have hready:k∈Region.ready .any ops listed:=by
   refine mem_ready.2 ⟨hkt,?_⟩
   have h1:=a0l.1 hed k (a2n.2 hk)
   cases e:ops[k]? with
   |none=>rw[e]at h1;cases h1
   |some o=>
    rw[e]at h1
    refine⟨o,rfl,fun x hx hb=>?_⟩
    have h2:=a9o.1 h1 x hx
    rw[hb]at h2
    simp only[a4r,a5c]at h2
    exact hkl _ (a0c h2)
  rw[show c+1+(ops.size-n)=(c+(ops.size-n))+1 by omega]
  refine⟨(fun h=>by rw[h]at hready;cases hready),fun i hi=>?_⟩
  have hin:i<n:=by
   rcases a0y i n with h|h
   ·exact h
   ·simp only[Acf,a5k,a0w,decide_eq_true_eq]at htail
    rcases htail with h1|⟨⟨h1,h2⟩,h3⟩
    ·obtain⟨_,o,ho,_⟩:=mem_ready.1 hi
     have:=(a6g.1 ho).1
     omega
    ·exact absurd hi (tail_waits h2 h3 h1 inv _ k rfl hk hkt i h)
  have hiu:listed.getD i false=false:=getD_both (mem_ready.1 hi).1
  refine wpOp_mono (fun a' w' hA'=>ih _ a' w' ?_ (inv.set hi hin) hA') (Yj rfl F hpre hconf hsto hcal hn hE inv hin hi hA)
  have:=Xa (listed:=listed) (j:=i) (by rw[inv.size];omega) hiu n
  rw[if_pos hin]at this
  omega
theorem p4x(n0:Nat){id:Nat}{l:List Oper}{y:Code}{Q:Exit->St->Prop}{tm:Tm}{H:AH}(n:Nat)(hm:P.follows .mixedOrders=true)(hB:I1 l.toArray n=true)
  (h:Reg (some n0) P N l.toArray (l.take n) tm H (fun tm' H'=>Reg none P N l.toArray (l.drop n) tm' H' (fun tm H=>T P N y ⟨tm,H⟩ Q))):T P N (.seq (.region id l.toArray true) y) ⟨tm,H⟩ Q:=by
 refine T.seq ⟨fun E a w ρ hE hr=>?_⟩
 obtain⟨ss,hok,hK⟩:=h.out
 have hn:n<=l.length:=by simp only[I1,a0w,decide_eq_true_eq]at hB;simpa using hB.2
 have htl:(l.take n).length=n:=by simp;omega
 obtain⟨h1,h2,h3,h4⟩:=O0 (ops:=l.toArray) (tm0:=tm) (H0:=H) (tr:=ss) (l.take n) ss 0 tm H (fun j hj=>by rw[htl]at hj;simp[hj]) (fun j _=>by simp) hok (fun t=>rfl) (fun b=>rfl)
 have F:Mt P N n0 l.toArray ss tm H n:=fun j hj=>by
  obtain⟨o,s,tmj,Hj,g⟩:=h2 j (by rw[htl];exact hj)
  rw[a1n]at g
  exact⟨o,s,tmj,Hj,g⟩
 rw[htl,a1n]at h3 h4
 have hr':RelSt E ⟨tm,H⟩ a {w with drawn:=w.drawn+1} ρ:=hr.below ⟨rfl,rfl,rfl,a0n _,fun _ _=>rfl⟩
 have hrep:∀i,(Array.replicate l.toArray.size false).getD i false=false:=fun i=>getD_replicate_false _ _
 have hcnt:cnt (Array.replicate l.toArray.size false) n=n:=by
  have:∀k,cnt (Array.replicate l.toArray.size false) k=k:=fun k=>by
   induction k with
   |zero=>rfl
   |succ k ih=>simp only[cnt,hrep,ih];simp
  exact this n
 refine wp_mono (wp_region_any hm ?_ (Q:=fun e a' w'=>e=.normal/\∃st' ρ',T P N y st' Q/\RelSt E st' a' w' ρ')) ?_
 ·have key:=U7 (ops:=l.toArray) (tr:=ss) (n:=n) (E:=E) F hB hE (Q:=fun e a' w'=>e=.normal/\∃st' ρ',T P N y st' Q/\RelSt E st' a' w' ρ') (l:=l.drop n) (fun j=>by simp[a2r]) (by simp) (fun a w ⟨tm',H',ρ',g1,g2,g3⟩=>by
   have g4:RelSt E ⟨N0 (l.take n) ss tm,Qo ss H⟩ a w ρ':=(g1.weaken _ fun t x hx=>by rw[g2 t,<-h3 t];exact hx).sameH fun b=>by rw[h4 b,<-g3 b]
   exact hK.out E a w ρ' hE g4) n _ a {w with drawn:=w.drawn+1} hcnt ⟨by simp,(fun j oj _ hl=>by rw[hrep]at hl;cases hl),(fun t _ ht=>getD_in (by simpa using ht) (hrep t))⟩ ⟨tm,H,ρ,hr',fun t=>?_,fun b=>?_⟩
  ·rw[show n+(l.toArray.size-n)=l.toArray.size by simp;omega]at key
   exact key
  ·rw[J4 (k:=0) n (by omega) fun i _ _ _=>hrep i];rfl
  ·exact(Gk n fun i _ _ _=>hrep i).symm
 ·rintro e a' w' ⟨rfl,st',ρ',g1,g2⟩
  exact⟨st',ρ',g1,g2⟩
theorem p5p{id:Nat}{l:List Oper}{y:Code}{Q:Exit->St->Prop}{tm:Tm}{H:AH}(n:Nat)(hm:P.follows .mixedOrders=true)(hB:I1 l.toArray n=true)
  (h:Reg (some H.length) P N l.toArray (l.take n) tm H (fun tm' H'=>Reg none P N l.toArray (l.drop n) tm' H' (fun tm H=>T P N y ⟨tm,H⟩ Q))):T P N (.seq (.region id l.toArray true) y) ⟨tm,H⟩ Q:=p4x H.length n hm hB h
theorem p0u{id:Nat}{l:List Oper}{y:Code}{Q:Exit->St->Prop}{tm:Tm}{H:AH}(hm:P.follows .mixedOrders=true)(hB:I1 l.toArray l.length=true)
  (h:Reg (some H.length) P N l.toArray l tm H (fun tm H=>T P N y ⟨tm,H⟩ Q)):T P N (.seq (.region id l.toArray true) y) ⟨tm,H⟩ Q:=by
 refine p5p l.length hm hB ?_
 rw[a0g (a0n _),b1r (a0n _)]
 obtain⟨ss,h1,h2⟩:=h.out
 exact⟨ss,h1,S.nil h2⟩
end
theorem RelL.part{w:World}{F:Nat->Prop}{rows:List (List Lf)}{ad:Addr}{cap:Nat}{V:Nat->Nat->Value}(hs:ad.spot=none\/cap=0)(hc:rows.length<=cap)
  (h1:∀(i:Nat)(row:List Lf)(j:Nat)(x:Lf),rows[i]?=some row->row[j]?=some x->¬F ad.block/\w.cell? ⟨ad.block,ad.off+(i*row.length+j),none⟩=some (V i j))
  (h2:∀(i:Nat)(row:List Lf)(j:Nat)(x:Lf),rows[i]?=some row->row[j]?=some x->RelL w F x (V i j)) {n lo hi:Nat} (hlo:lo<=hi) (hhi:hi<=rows.length) (hn:∀row∈rows,row.length=n):
  RelL w F (.sl ((rows.drop lo).take (hi-lo))) (.slice (if cap=lo then some ad else(some ad).map (·.add (lo*n))) (hi-lo) (cap-lo)):=by
 have hlen:((rows.drop lo).take (hi-lo)).length=hi-lo:=by simp;omega
 by_cases e:cap=lo
 ·rw[if_pos e]
  have h0:hi-lo=0:=by omega
  have hnil:(rows.drop lo).take (hi-lo)=[]:=by rw[h0];simp
  rw[hnil]
  rw[hnil]at hlen
  rw[<-hlen]
  exact .sl [] ad _ (fun _ _=>undef) (.inr (by omega)) (by simp) (fun i row j x h=>by simp at h) (fun i row j x h=>by simp at h)
 ·rw[if_neg e,a1g,Bf (hs.resolve_right (by omega))]
  have:=RelL.sl (w:=w) (F:=F) ((rows.drop lo).take (hi-lo)) ⟨ad.block,ad.off+lo*n,none⟩ (cap-lo) (fun i j=>V (lo+i) j) (.inl rfl) (by rw[hlen];omega) (fun i row j x hi' hj=>?_) (fun i row j x hi' hj=>?_)
  ·rw[hlen]at this;exact this
  ·have hir:rows[lo+i]?=some row:=by
    rcases a0y i (hi-lo)with h|h
    ·rw[a1o h,a2r]at hi';exact hi'
    ·rw[a0v (by rw[hlen];exact h)]at hi';cases hi'
   obtain⟨g1,g2⟩:=h1 _ _ _ _ hir hj
   refine⟨g1,?_⟩
   rw[<-g2,hn row (a0a hir),a3u]
   simp only[a1t]
  ·have hir:rows[lo+i]?=some row:=by
    rcases a0y i (hi-lo)with h|h
    ·rw[a1o h,a2r]at hi';exact hi'
    ·rw[a0v (by rw[hlen];exact h)]at hi';cases hi'
   exact h2 _ _ _ _ hir hj
section
variable {P:Program}{N:Nat}{ops:Array Oper}{m:Option Nat}{K:Tm->AH->Prop}{tm:Tm}{H:AH}{rest:List Oper}{op:Op}{ty:TypeId}{pos:String}{af:Array Edge}{d:Nat}{x y z:Operand}{t u e:TypeId}
theorem p1o{n:Nat}{k:IntKind}{i:Int}{rows:List (List Lf)}[hu:HasU P t (.slice e)][hi:HasS P e n](hx:evT tm x=some (.sl rows))(hy:evT tm y=some (.val (.int k i)))(hN:LN d N)(h0:0<=i/\i<=rows.length)(hn:∀row∈rows,row.length=n)(h:Reg m P N ops rest ((d,.sl (rows.take i.toNat))::tm) H K):Reg m P N ops (⟨some d,.slice t x none (some y) none,ty,pos,af,none⟩::rest) tm H K:=by
 refine S.val (OpV.mk fun L w ρ η hη _=>?_) hN h
 have hv:=(hη y (by simp[Op.operands]) _ hy).val_eq
 rcases(hη x (by simp[Op.operands]) _ hx).lf_out.sl_out with⟨rfl,h1⟩|⟨ad,cap,V,h1,hs,hc,h2,h3⟩
 ·have hi0:i=0:=by simp at h0;omega
  subst hi0
  exact⟨.slice none 0 0,by simp[execOp,h1,hv,Instr.sliceAt,run_underlying hu.out,Instr.slice,Instr.sliceBounds,Instr.sliceBound,asIntOf,Ax hi.out],.lf _ _ .slnil⟩
 ·have hp:=RelL.part hs hc h2 h3 (n:=n) (lo:=0) (hi:=i.toNat) (a0k _) (by omega) hn
  simp only[a8e,a6e]at hp
  refine⟨_,?_,.lf _ _ hp⟩
  have hcap:i<=(cap:Int):=by omega
  simp only[execOp,h1,hv,Instr.sliceAt,a1g,a6x,a0t,run_underlying hu.out,a0o,Instr.slice,Instr.sliceBounds,Instr.sliceBound,asIntOf,a1m,h0.1,hcap,and_self,if_true,Ax hi.out,a6e]
  try rfl
theorem p3g{n:Nat}{k:IntKind}{i:Int}{rows:List (List Lf)}[hu:HasU P t (.slice e)][hi:HasS P e n](hx:evT tm x=some (.sl rows))(hy:evT tm y=some (.val (.int k i)))(hN:LN d N)(h0:0<=i/\i<=rows.length)(hn:∀row∈rows,row.length=n)(h:Reg m P N ops rest ((d,.sl (rows.drop i.toNat))::tm) H K):Reg m P N ops (⟨some d,.slice t x (some y) none none,ty,pos,af,none⟩::rest) tm H K:=by
 refine S.val (OpV.mk fun L w ρ η hη _=>?_) hN h
 have hv:=(hη y (by simp[Op.operands]) _ hy).val_eq
 rcases(hη x (by simp[Op.operands]) _ hx).lf_out.sl_out with⟨rfl,h1⟩|⟨ad,cap,V,h1,hs,hc,h2,h3⟩
 ·have hi0:i=0:=by simp at h0;omega
  subst hi0
  exact⟨.slice none 0 0,by simp[execOp,h1,hv,Instr.sliceAt,run_underlying hu.out,Instr.slice,Instr.sliceBounds,Instr.sliceBound,asIntOf,Ax hi.out],.lf _ _ .slnil⟩
 ·have hp:=RelL.part hs hc h2 h3 (n:=n) (lo:=i.toNat) (hi:=rows.length) (by omega) (a0n _) hn
  rw[a0g (by simp)]at hp
  refine⟨_,?_,.lf _ _ hp⟩
  have hl:i<=(rows.length:Int):=h0.2
  simp only[execOp,h1,hv,Instr.sliceAt,a1g,a6x,a0t,run_underlying hu.out,a0o,Instr.slice,Instr.sliceBounds,Instr.sliceBound,asIntOf,a1m,h0.1,hl,and_self,if_true,Ax hi.out]
  try rfl

theorem S.rem{a b:Int}(hx:evT tm x=some (.val (.int .i64 a)))(hy:evT tm y=some (.val (.int .i64 b)))(hN:LN d N)(h0:0<=a/\0<b)(h:Reg m P N ops rest ((d,.val (.int .i64 (a%b)))::tm) H K):Reg m P N ops (⟨some d,.binOp .rem t x y u,ty,pos,af,none⟩::rest) tm H K:=
 S.val (OpV.mk fun L w ρ η hη _=>by
  have h1:=(hη x (by simp[Op.operands]) _ hx).val_eq
  have h2:=(hη y (by simp[Op.operands]) _ hy).val_eq
  have hb:b≠0:=by omega
  exact⟨_,by simp[execOp,h1,h2,eqGuard,binOp,Op.intDiv,hb,a7w h0.1],Ab _⟩) hN h
theorem S.quo{a b:Int}(hx:evT tm x=some (.val (.int .i64 a)))(hy:evT tm y=some (.val (.int .i64 b)))(hN:LN d N)(h0:0<=a/\0<b/\a<=9223372036854775807)(h:Reg m P N ops rest ((d,.val (.int .i64 (a/b)))::tm) H K):Reg m P N ops (⟨some d,.binOp .quo t x y u,ty,pos,af,none⟩::rest) tm H K:=
 S.val (OpV.mk fun L w ρ η hη _=>by
  have h1:=(hη x (by simp[Op.operands]) _ hx).val_eq
  have h2:=(hη y (by simp[Op.operands]) _ hy).val_eq
  have hb:b≠0:=by omega
  have hq:0<=a/b/\a/b<=a:=⟨a1y h0.1 (by omega),a2q b h0.1⟩
  have hw:IntKind.i64.wrap (a/b)=a/b:=by
   simp[IntKind.wrap,IntKind.signed,IntKind.bits]
   omega
  exact⟨_,by simp[execOp,h1,h2,eqGuard,binOp,Op.intDiv,hb,a4d h0.1,hw],Ab _⟩) hN h

/-! ### Calls of function values -/
theorem OpV.callF{o:Oper}{ev:Operand->Option AV}{Hf:Nat->HB}{g:FuncId}{f:Operand}{xs:Array Operand}{ts:Array TypeId}{ys caps:List AV}{r:AV}(hp:Fn0 P g (ys++caps) r)(ho:o.op=.call ⟨.value f,xs,ts⟩)(hf:ev f=some (.fn (.func g) [] caps))(hx:evs ev xs.toList=some ys)(ht:(ys++caps).all AV.tree=true):OpV P o ev Hf r none:=fun E st a w ρ K Q hr he hH hn hK=>by
 obtain⟨g1,g2⟩:=Ff _ _ hx
 have hfv:=hr.ev (he f (by rw[ho];simp[Op.operands,Call.operands]) _ hf)
 obtain⟨us,vs,h1,h2,h3,_,h4⟩:=hfv.fn_out
 simp only[a0m]at h2
 obtain rfl:us=[]:=a0z h2.symm
 have hrun:(execOp a.eval o).run P w=.ok (.enter g (xs.toList.map a.eval++vs).toArray) w:=by
  have:(execOp a.eval o).run P w=(callFunc g (#[]++xs.map a.eval++vs.toArray)).run P w:=by simp[execOp,ho,resolve,h1,Deferred.ofValue,invoke]
  rw[this,hp.1.run]
  simp only[a5o,a5a,true_and,and_true]
  apply a6m
  simp
 unfold Oper.wp
 rw[hrun]
 refine(hp.2 (Fb E.L ρ) w (xs.toList.map a.eval++vs) hr.glob hr.fb_lt (by simp[<-g1,h3]) fun i x v hx hv=>?_).mono ?_
 ·refine RelV.bare ?_ (a0l.1 ht x (a0a hx))
  rcases a0y i ys.length with hi|hi
  ·rw[a1k hi]at hx
   rw[a1k (by rw[a0e,g1];exact hi)]at hv
   obtain⟨z,h5,h6⟩:=g2 i x hx
   rw[a0d,h5]at hv
   simp at hv
   subst hv
   refine hr.ev (he z ?_ x h6)
   rw[ho]
   exact a5t.2 (.inr (a4p.1 (a0a h5)))
  ·rw[a1h hi]at hx
   rw[a1h (by rw[a0e,g1];exact hi),a0e,g1]at hv
   exact h4 _ _ _ hx hv
 ·rintro e w' ⟨v,rfl,hv,hb⟩
  exact hK w' ρ v (hr.below hb) hv.dress
theorem S.callF{g:FuncId}{f:Operand}{xs:Array Operand}{ts:Array TypeId}{ys caps:List AV}{r:AV}(hf:evT tm f=some (.fn (.func g) [] caps))(hx:evs (evT tm) xs.toList=some ys)(hp:Fn0 P g (ys++caps) r)(ht:(ys++caps).all AV.tree=true)(hN:LN d N)(h:Reg m P N ops rest ((d,r)::tm) H K):Reg m P N ops (⟨some d,.call ⟨.value f,xs,ts⟩,ty,pos,af,none⟩::rest) tm H K:=S.val (OpV.callF hp rfl hf hx ht) hN h

/-! ### Maps with strings as keys -/
def H5:List (ByteArray×Value)->ByteArray->Value->List (ByteArray×Value)
 |[],s,v=>[(s,v)]
 |(k,u)::r,s,v=>if k=s then(s,v)::r else(k,u)::H5 r s v
def Ux(es:List (ByteArray×Value)):List (Value×Value):=es.map fun p=>(Value.string p.1,p.2)
theorem A38(es:List (ByteArray×Value)):(Ux es).length=es.length:=a0e _
theorem Qj(s r:ByteArray):(s==r)=decide (s=r):=by
 show(s.data==r.data)=_
 by_cases h:s=r
 ·subst h;simp
 ·have:s.data≠r.data:=fun e=>h (by cases s;cases r;exact congrArg _ e)
  simp[h,this]
theorem Tg(s:ByteArray)(v:Value):∀(l:List MapEntry)(es:List (ByteArray×Value))(i:Nat),l.map (fun(e:MapEntry)=>(e.key,e.val))=es.map (fun p=>(Value.string p.1,p.2))->
  (∃j u,Instr.findNow .string (.string s) l i=some (some (i+j,u))/\(l[j]?).map (·.key)=some (.string s)/\(l.modify j fun(e:MapEntry)=>{e with key:=.string s,val:=v}).map (fun(e:MapEntry)=>(e.key,e.val))=(H5 es s v).map fun p=>(Value.string p.1,p.2))\/
  (Instr.findNow .string (.string s) l i=some none/\∀b,(l++[(MapEntry.mk (.string s) v b)]).map (fun(e:MapEntry)=>(e.key,e.val))=(H5 es s v).map fun p=>(Value.string p.1,p.2))
 |[],[],i,_=>.inr ⟨rfl,fun b=>rfl⟩
 |[],_::_,i,h=>by simp at h
 |_::_,[],i,h=>by simp at h
 |x::l,(k,u)::es,i,h=>by
  simp only[a2g,a8q,a1p]at h
  obtain⟨⟨h1,h2⟩,h3⟩:=h
  by_cases e:k=s
  ·subst e
   refine .inl ⟨0,x.val,?_,?_,?_⟩
   ·simp[Instr.findNow,h1,Instr.sameNow,Qj]
   ·simp[h1]
   ·simp[H5,h3]
  ·have hs:(s==k)=false:=by rw[Qj];exact decide_eq_false (fun h=>e (b2r h))
   have hf:Instr.findNow .string (.string s) (x::l) i=Instr.findNow .string (.string s) l (i+1):=by simp[Instr.findNow,h1,Instr.sameNow,hs]
   rcases Tg s v l es (i+1) h3 with⟨j,u',g1,g2,g3⟩|⟨g1,g2⟩
   ·refine .inl ⟨j+1,u',?_,?_,?_⟩
    ·rw[hf,g1];simp;omega
    ·simpa using g2
    ·simp only[b1y,a2g,H5,if_neg e,h1,h2,g3]
   ·refine .inr ⟨by rw[hf,g1],fun b=>?_⟩
    simp only[a3g,a2g,H5,if_neg e,h1,h2]
    rw[g2 b]
theorem S.makeMap{b:Nat}(hb':H.nextId=some b)(hN:LN d N)(h:Reg none P N ops rest ((d,.mp b)::tm) (H.put b (.map [])) K):Reg none P N ops (⟨some d,.makeMap t none,ty,pos,af,none⟩::rest) tm H K:=by
 refine⟨fun E a w ρ hE hr=>?_⟩
 replace h:=h.out
 have hb:=Kk hb'
 subst hb
 refine wpList_plain rfl fun K' hK=>?_
 obtain⟨g1,g2⟩:=hr.newMap (p2y H) 0
 unfold Oper.wp
 have hrun:(execOp a.eval ⟨some d,.makeMap t none,ty,pos,af,none⟩).run P w=.ok (.value (.map (some w.heap.size))) (w.alloc (.map #[] 0)):=by
  simp[execOp,Instr.makeMap]
 rw[hrun]
 exact hK _ _ (h E _ _ _ hE (g1.put (by rw[hE];exact a0c hN) g2))
theorem S.mapUpdate{k:TypeId}{b:Nat}{s:ByteArray}{r:AV}{v:Value}{es:List (ByteArray×Value)}[hu:HasU P t (.map k e)][hk:HasU P k .string](hx:evT tm x=some (.mp b))(hb:H.at b=.map (Ux es))(hy:evT tm y=some (.val (.string s)))(hz:evT tm z=some r)(hv:r.flat=some v)(h:Reg none P N ops rest tm (H.put b (.map (Ux (H5 es s v)))) K):Reg none P N ops (⟨none,.mapUpdate t x y z,ty,pos,af,none⟩::rest) tm H K:=by
 refine⟨fun E a w ρ hE hr=>?_⟩
 replace h:=h.out
 refine wpList_plain rfl fun K' hK=>?_
 obtain⟨k0,entries,clock,g1,g2,g3,g4⟩:=hr.H.map b _ hb
 have h1:=(hr.ev (x:=x) (by rw[Am];exact hx)).mp_out k0 0 g1
 have h2:=(hr.ev (x:=y) (by rw[Am];exact hy)).val_eq
 have h3:=(hr.ev (x:=z) (by rw[Am];exact hz)).flat hv
 have hget:(getObj k0).run P w=.ok (.map entries clock) w:=by simp[getObj,Sem.run,g2]
 have hset:∀o,(setObj k0 o).run P w=.ok () {w with heap:=w.heap.setIfInBounds k0 o}:=fun o=>by simp[setObj,Sem.run,g2]
 have hck:(Instr.checkKey false 10000 k (.string s)).run P w=.ok () w:=by
  rw[Instr.checkKey,a0t,run_underlying hk.out]
  rfl
 have hfind:∀r,Instr.findNow .string (.string s) entries.toList 0=some r->(Instr.findKey k (.string s) entries.toList).run P w=.ok r w:=fun r hr=>by
  rw[Instr.findKey,a0t,run_underlying hk.out]
  simp only[a0o,hr,a1m]
 unfold Oper.wp
 rcases Tg s v entries.toList es 0 g4 with⟨j,u',f1,f2,f3⟩|⟨f1,f2⟩
 ·rw[a1n]at f1
  have hkey:((entries[j]?).map (·.key)).getD (.string s)=.string s:=by
   have:entries[j]?=entries.toList[j]?:=by simp
   rw[this,f2];rfl
  have hstay:(Instr.keyThatStays (.string s) (.string s)).run P w=.ok (.string s) w:=by
   have hss:(s==s)=true:=by rw[Qj];simp
   simp only[Instr.keyThatStays,Instr.sameBits,hss,if_true,a1m]
  have hrun:(execOp a.eval ⟨none,.mapUpdate t x y z,ty,pos,af,none⟩).run P w=.ok .skip {w with heap:=w.heap.setIfInBounds k0 (.map (entries.modify j fun e=>{e with key:=.string s,val:=v}) clock)}:=by
   simp only[execOp,h1,h2,h3,Instr.mapUpdate,a0t,run_underlying hu.out,a0o,hget,hck,hfind _ f1,hkey,hstay,hset,a1m]
  rw[hrun]
  exact hK _ _ (h E _ _ _ hE (hr.setMap hb g1 _ _ (by rw[b2o];exact f3)))
 ·have hrun:(execOp a.eval ⟨none,.mapUpdate t x y z,ty,pos,af,none⟩).run P w=.ok .skip {w with heap:=w.heap.setIfInBounds k0 (.map (entries.push {key:=.string s,val:=v,born:=clock}) (clock+1))}:=by
   simp only[execOp,h1,h2,h3,Instr.mapUpdate,a0t,run_underlying hu.out,a0o,hget,hck,hfind _ f1,hset,a1m]
  rw[hrun]
  exact hK _ _ (h E _ _ _ hE (hr.setMap hb g1 _ _ (by rw[Array.toList_push];exact f2 clock)))
theorem p4k{k:TypeId}{b:Nat}{es:List (Value×Value)}[hu:HasU P t (.map k e)](hx:evT tm x=some (.mp b))(hb:H.at b=.map es)(hN:LN d N)(h:Reg none P N ops rest ((d,.val (.int .i64 es.length))::tm) H K):Reg none P N ops (⟨some d,.call ⟨.builtin .len, #[x], #[t]⟩,ty,pos,af,none⟩::rest) tm H K:=by
 refine⟨fun E a w ρ hE hr=>?_⟩
 replace h:=h.out
 refine wpList_plain rfl fun K' hK=>?_
 obtain⟨k0,entries,clock,g1,g2,g3,g4⟩:=hr.H.map b es hb
 have h1:=(hr.ev (x:=x) (by rw[Am];exact hx)).mp_out k0 0 g1
 have hget:(getObj k0).run P w=.ok (.map entries clock) w:=by simp[getObj,Sem.run,g2]
 have hlen:entries.size=es.length:=by
  have:=congrArg List.length g4
  simpa using this
 have hrun:(execOp a.eval ⟨some d,.call ⟨.builtin .len, #[x], #[t]⟩,ty,pos,af,none⟩).run P w=.ok (.value (.int .i64 es.length)) w:=by
  simp[execOp,h1,resolve,invoke,builtin,Builtin.len_,run_underlying hu.out,hget,goInt,hlen]
 unfold Oper.wp
 rw[hrun]
 exact hK _ _ (h E _ _ _ hE (hr.put (by rw[hE];exact a0c hN) (Ab _)))
end
section
variable {P:Program}{o:Oper}{ev:Operand->Option AV}{Hf:Nat->HB}
theorem Qw{t e:TypeId}{n len:Nat}(hu:P.underlying t=some (.array len e))(hi:(P.info? e).map (·.size)=some n)(w:World)(ad:Addr)(k:IntKind)(i:Int)(h0:0<=i)(h1:i<len):(Instr.indexAt t (.pointer (some ad)) (.int k i)).run P w=.ok (.pointer (some (ad.add (i.toNat*n)))) w:=by
 simp[Instr.indexAt,asIntOf,run_underlying hu,Ax hi,Instr.sureAddr,h0,h1]
theorem OpV.idxAR{t e:TypeId}{x y:Operand}{n len:Nat}{k:IntKind}{i:Int}{cs:List Lf}(ho:o.op=.indexAddr t x y)(hx:ev x=some (.rop cs))(hy:ev y=some (.val (.int k i)))(hu:P.underlying t=some (.array len e))(hi:(P.info? e).map (·.size)=some n)(h0:0<=i)(h1:i<len):OpV P o ev Hf (.rop (cs.drop (i.toNat*n))) none:=OpV.mk fun L w ρ η hη _=>by
 have hv:=(hη y (by simp[ho,Op.operands]) _ hy).val_eq
 obtain⟨ad,V,g1,hs,g2,g3⟩:=(hη x (by simp[ho,Op.operands]) _ hx).rop_out
 refine⟨_,by simp only[execOp,ho,g1,hv,a0t,Qw hu hi w ad k i h0 h1,a0o,a1m];rfl,?_⟩
 rw[Bf hs]
 exact A2w hs g2 g3 _
theorem OpV.idxAP{t e:TypeId}{x y:Operand}{n len b off:Nat}{k:IntKind}{i:Int}{cells:List AV}(ho:o.op=.indexAddr t x y)(hx:ev x=some (.ptr b off))(hb:Hf b=.live cells)(hy:ev y=some (.val (.int k i)))(hu:P.underlying t=some (.array len e))(hi:(P.info? e).map (·.size)=some n)(h0:0<=i)(h1:i<len):OpV P o ev Hf (.ptr b (off+i.toNat*n)) none:=OpV.mk fun L w ρ η hη hH=>by
 have hv:=(hη y (by simp[ho,Op.operands]) _ hy).val_eq
 obtain⟨k',o',arr,el,lo,hi',g1,g2,g3,g4⟩:=hH b cells hb
 have g5:=(hη x (by simp[ho,Op.operands]) _ hx).ptr_out k' o' g1
 refine⟨_,by simp only[execOp,ho,g5,hv,a0t,Qw hu hi w _ k i h0 h1,a0o,a1m];rfl,.ptr _ _ _ (by rw[g1];simp) rfl fun k2 o2 h2=>?_⟩
 rw[g1]at h2
 injection h2 with h2
 injection h2 with h2
 injection h2 with h2 h3
 subst h2 h3
 rw[Bf rfl,a1t]
theorem OpV.strGt{t u:TypeId}{x y:Operand}{s r:ByteArray}(ho:o.op=.binOp .gtr t x y u)(hx:ev x=some (.val (.string s)))(hy:ev y=some (.val (.string r))):OpV P o ev Hf (.val (.bool !(Op.bytesLess s.toList r.toList||s.toList==r.toList))) none:=OpV.mk fun L w ρ η hη _=>by
 have h1:=(hη x (by simp[ho,Op.operands]) _ hx).val_eq
 have h2:=(hη y (by simp[ho,Op.operands]) _ hy).val_eq
 exact⟨_,by simp[execOp,ho,h1,h2,eqGuard,binOp,Op.stringOp],Ab _⟩
theorem OpV.boolNe{t u:TypeId}{x y:Operand}{a b:Bool}(ho:o.op=.binOp .neq t x y u)(hx:ev x=some (.val (.bool a)))(hy:ev y=some (.val (.bool b)))(hu:P.underlying t=some .bool):OpV P o ev Hf (.val (.bool !(a==b))) none:=OpV.mk fun L w ρ η hη _=>by
 have h1:=(hη x (by simp[ho,Op.operands]) _ hx).val_eq
 have h2:=(hη y (by simp[ho,Op.operands]) _ hy).val_eq
 have he:∀d,(Op.equalIn (d+1) t (.bool a) (.bool b)).run P w=.ok (a==b) w:=fun d=>by
  rw[Op.equalIn,a0t,run_underlying hu];rfl
 have he2:(Op.equal t (.bool a) (.bool b)).run P w=.ok (a==b) w:=he _
 exact⟨_,by simp[execOp,ho,h1,h2,eqGuard,binOp,he2],Ab _⟩
end
def gtS(s r:ByteArray):Prop:=¬(Op.bytesLess s.toList r.toList=true\/s=r)
instance (s r:ByteArray):Decidable (gtS s r):=by unfold gtS;exact inferInstance
theorem Np(x y:UInt8)(a b:List UInt8):Op.bytesLess (x::a) (y::b)=true↔x.toNat<y.toNat\/x.toNat=y.toNat/\Op.bytesLess a b=true:=by
 simp only[Op.bytesLess,a5k,decide_eq_true_eq,a0w,beq_iff_eq,UInt8.lt_iff_toNat_lt,UInt8.toNat_inj]
theorem Mx:∀a b:List UInt8,Op.bytesLess a b=true->¬Op.bytesLess b a=true
 |[],[],h=>by simp[Op.bytesLess]at h
 |[],_::_,_=>by simp[Op.bytesLess]
 |_::_,[],h=>by simp[Op.bytesLess]at h
 |x::a,y::b,h=>by
  have ih:=Mx a b
  rw[Np]at h⊢
  rintro(h1|⟨h1,h2⟩)
  ·omega
  ·rcases h with h3|⟨_,h4⟩
   ·omega
   ·exact ih h4 h2
theorem My:∀a b:List UInt8,¬Op.bytesLess a b=true->¬Op.bytesLess b a=true->a=b
 |[],[],_,_=>rfl
 |[],_::_,h,_=>by simp[Op.bytesLess]at h
 |_::_,[],_,h=>by simp[Op.bytesLess]at h
 |x::a,y::b,h,h'=>by
  rw[Np]at h h'
  have e:x.toNat=y.toNat:=by omega
  have e2:x=y:=UInt8.toNat_inj.1 e
  subst e2
  rw[My a b (fun g=>h (.inr ⟨rfl,g⟩)) (fun g=>h' (.inr ⟨rfl,g⟩))]
theorem Qu{s r:ByteArray}(h:gtS s r):¬gtS r s:=by
 intro h'
 have h1:=fun g=>h (.inl g)
 have h2:=fun g=>h' (.inl g)
 have e:s.toList=r.toList:=My _ _ h1 h2
 have:(s.toList==r.toList)=decide (s=r):=O8 s r
 rw[e]at this
 have h3:s=r:=of_decide_eq_true (by rw[<-this];simp)
 exact h (.inr h3)
theorem Yq{s r:ByteArray}(h:¬gtS s r)(h':¬gtS r s):s=r:=by
 unfold gtS at h h'
 rcases a3h.1 h with h1|h1
 ·rcases a3h.1 h' with h2|h2
  ·exact absurd h2 (Mx _ _ h1)
  ·exact h2.symm
 ·exact h1
section
variable {P:Program}{N:Nat}{ops:Array Oper}{m:Option Nat}{K:Tm->AH->Prop}{tm:Tm}{H:AH}{rest:List Oper}{op:Op}{ty:TypeId}{pos:String}{af:Array Edge}{d:Nat}{x y z:Operand}{t u e:TypeId}
theorem S.idxAR{n len o2:Nat}{k:IntKind}{i:Int}{cs:List Lf}[hu:HasU P t (.array len e)][hi:HasS P e n](hx:evT tm x=some (.rop cs))(hy:evT tm y=some (.val (.int k i)))(hN:LN d N)(h0:0<=i/\i<len)(ho:i.toNat*n=o2)(h:Reg m P N ops rest ((d,.rop (Sa o2 cs))::tm) H K):Reg m P N ops (⟨some d,.indexAddr t x y,ty,pos,af,none⟩::rest) tm H K:=by
 subst ho
 rw[M9]at h
 exact S.val (OpV.idxAR rfl hx hy hu.out hi.out h0.1 h0.2) hN h
theorem S.idxAP{n len b off o2:Nat}{k:IntKind}{i:Int}[hu:HasU P t (.array len e)][hi:HasS P e n](hx:evT tm x=some (.ptr b off))(hy:evT tm y=some (.val (.int k i)))(hb:(C0 m H b).isLive=true)(hN:LN d N)(h0:0<=i/\i<len)(ho:off+i.toNat*n=o2)(h:Reg m P N ops rest ((d,.ptr b o2)::tm) H K):Reg m P N ops (⟨some d,.indexAddr t x y,ty,pos,af,none⟩::rest) tm H K:=by
 obtain⟨cs,hb'⟩:=Eb hb
 subst ho
 exact S.val (OpV.idxAP rfl hx hb' hy hu.out hi.out h0.1 h0.2) hN h
theorem S.strGt{s r:ByteArray}(hx:evT tm x=some (.val (.string s)))(hy:evT tm y=some (.val (.string r)))(hN:LN d N)(h:Reg m P N ops rest ((d,.val (.bool (decide (gtS s r))))::tm) H K):Reg m P N ops (⟨some d,.binOp .gtr t x y u,ty,pos,af,none⟩::rest) tm H K:=by
 have:=OpV.strGt (P:=P) (o:=⟨some d,.binOp .gtr t x y u,ty,pos,af,none⟩) (Hf:=C0 m H) rfl hx hy
 have hd:(!(Op.bytesLess s.toList r.toList||s.toList==r.toList))=decide (gtS s r):=by
  rw[O8]
  unfold gtS
  by_cases h1:Op.bytesLess s.toList r.toList=true<;>by_cases h2:s=r<;>simp[h1,h2]
 rw[hd]at this
 exact S.val this hN h
theorem S.boolNe{p q:Prop}{ip:Decidable p}{iq:Decidable q}[hu:HasU P t .bool](hx:evT tm x=some (.val (.bool (decide p))))(hy:evT tm y=some (.val (.bool (decide q))))(hN:LN d N)(h:Reg m P N ops rest ((d,.val (.bool (decide (¬(p↔q)))))::tm) H K):Reg m P N ops (⟨some d,.binOp .neq t x y u,ty,pos,af,none⟩::rest) tm H K:=by
 have:=OpV.boolNe (P:=P) (o:=⟨some d,.binOp .neq t x y u,ty,pos,af,none⟩) (Hf:=C0 m H) rfl hx hy hu.out
 have hd:(!(decide p==decide q))=decide (¬(p↔q)):=by
  by_cases h1:p<;>by_cases h2:q<;>simp[h1,h2]
 rw[hd]at this
 exact S.val this hN h
end
def C1(p:ByteArray×ByteArray):Value:=.agg #[.string p.1,.string p.2]
def F7(es:List ((ByteArray×ByteArray)×Value)):List (Value×Value):=es.map fun p=>(C1 p.1,p.2)
def Ji:List ((ByteArray×ByteArray)×Value)->ByteArray×ByteArray->Value->List ((ByteArray×ByteArray)×Value)
 |[],s,v=>[(s,v)]
 |(k,u)::r,s,v=>if k=s then(s,v)::r else(k,u)::Ji r s v
def Fj:List ((ByteArray×ByteArray)×Value)->ByteArray×ByteArray->Option Value
 |[],_=>none
 |(k,u)::r,s=>if k=s then some u else Fj r s
section
variable {P:Program}{kt e:TypeId}
theorem P9(he:P.underlying e=some .string)(cs:Array Value)(i:Nat)(v:Value)(h:cs[i]?=some v)(w:World):(part e cs i).run P w=.ok v w:=by
 obtain⟨hi,rfl⟩:=a6g.1 h
 simp[part,N4 he,TypeDesc.isRow,hi]
theorem Q8(hu:P.underlying kt=some (.array 2 e))(he:P.underlying e=some .string)(hi:(P.info? e).map (·.size)=some 1)(em:Bool)(n:Nat)(p:ByteArray×ByteArray)(w:World):(Instr.checkKey em (n+2) kt (C1 p)).run P w=.ok () w:=by
 have h1:∀s:ByteArray,(Instr.checkKey em (n+1) e (.string s)).run P w=.ok () w:=fun s=>by
  rw[Instr.checkKey,a0t,run_underlying he];rfl
 have p0:=P9 he #[.string p.1,.string p.2] 0 (.string p.1) rfl w
 have p1:=P9 he #[.string p.1,.string p.2] 1 (.string p.2) rfl w
 rw[Instr.checkKey,a0t,run_underlying hu]
 simp only[a0o,C1]
 simp[a8x,List.range',Ax hi,p0,p1,h1,a0t]
theorem Vk(hu:P.underlying kt=some (.array 2 e))(he:P.underlying e=some .string)(hi:(P.info? e).map (·.size)=some 1)(p q:ByteArray×ByteArray)(w:World):(Op.equal kt (C1 p) (C1 q)).run P w=.ok (decide (p=q)) w:=by
 have h1:∀d (s r:ByteArray),(Op.equalIn (d+1) e (.string s) (.string r)).run P w=.ok (decide (s=r)) w:=fun d s r=>by
  rw[Op.equalIn,a0t,run_underlying he]
  simp only[a0o,a1m,Qj]
 have p0:=fun s r:ByteArray=>P9 he #[.string s,.string r] 0 (.string s) rfl w
 have p1:=fun s r:ByteArray=>P9 he #[.string s,.string r] 1 (.string r) rfl w
 have key:∀d,(Op.equalIn (d+2) kt (C1 p) (C1 q)).run P w=.ok (decide (p=q)) w:=fun d=>by
  rw[Op.equalIn,a0t,run_underlying hu]
  simp only[a0o,C1]
  obtain⟨a,b⟩:=p
  obtain⟨c,f⟩:=q
  by_cases e1:a=c<;>by_cases e2:b=f<;>simp[a8x,List.range',Ax hi,p0,p1,h1,a0t,e1,e2]
 exact key _
theorem Jb(hu:P.underlying kt=some (.array 2 e))(he:P.underlying e=some .string)(hi:(P.info? e).map (·.size)=some 1)(s:ByteArray×ByteArray)(v:Value)(w:World):∀(l:List MapEntry)(es:List ((ByteArray×ByteArray)×Value))(i:Nat),l.map (fun(e:MapEntry)=>(e.key,e.val))=F7 es->
  (∃j u,(Instr.findAsking kt (C1 s) l i).run P w=.ok (some (i+j,u)) w/\Fj es s=some u/\(l[j]?).map (·.key)=some (C1 s)/\(l.modify j fun(e:MapEntry)=>{e with key:=C1 s,val:=v}).map (fun(e:MapEntry)=>(e.key,e.val))=F7 (Ji es s v))\/
  ((Instr.findAsking kt (C1 s) l i).run P w=.ok none w/\Fj es s=none/\∀b,(l++[(MapEntry.mk (C1 s) v b)]).map (fun(e:MapEntry)=>(e.key,e.val))=F7 (Ji es s v))
 |[],[],i,_=>.inr ⟨rfl,rfl,fun b=>rfl⟩
 |[],_::_,i,h=>by simp[F7]at h
 |_::_,[],i,h=>by simp[F7]at h
 |x::l,(k,u)::es,i,h=>by
  simp only[F7,a2g,a8q,a1p]at h
  obtain⟨⟨h1,h2⟩,h3⟩:=h
  by_cases e0:k=s
  ·subst e0
   refine .inl ⟨0,x.val,?_,?_,?_,?_⟩
   ·simp[Instr.findAsking,h1,a0t,Vk hu he hi]
   ·simp[Fj,h2]
   ·simp[h1]
   ·simp[F7,Ji,h3]
  ·have hf:(Instr.findAsking kt (C1 s) (x::l) i).run P w=(Instr.findAsking kt (C1 s) l (i+1)).run P w:=by
    have:¬s=k:=fun h=>e0 h.symm
    simp[Instr.findAsking,h1,a0t,Vk hu he hi,this]
   rcases Jb hu he hi s v w l es (i+1) h3 with⟨j,u',g1,g2,g3,g4⟩|⟨g1,g2,g3⟩
   ·refine .inl ⟨j+1,u',?_,?_,?_,?_⟩
    ·rw[hf,g1];simp;omega
    ·rw[Fj,if_neg e0,g2]
    ·simpa using g3
    ·simp only[F7]at g4
     simp only[b1y,a2g,Ji,if_neg e0,F7,h1,h2,g4]
   ·refine .inr ⟨by rw[hf,g1],by rw[Fj,if_neg e0,g2],fun b=>?_⟩
    have g4:=g3 b
    simp only[F7]at g4
    simp only[a3g,a2g,Ji,if_neg e0,F7,h1,h2,g4]
theorem Qq(hu:P.underlying kt=some (.array 2 e))(l:List MapEntry)(s:ByteArray×ByteArray)(w:World):(Instr.findKey kt (C1 s) l).run P w=(Instr.findAsking kt (C1 s) l).run P w:=by
 rw[Instr.findKey,a0t,run_underlying hu]
 cases l with
 |nil=>rfl
 |cons x l=>rfl
end
section
variable {P:Program}{N:Nat}{ops:Array Oper}{K:Tm->AH->Prop}{tm:Tm}{H:AH}{rest:List Oper}{ty:TypeId}{pos:String}{af:Array Edge}{d:Nat}{x y z:Operand}{t e:TypeId}
theorem Zh{w:World}{L:Nat->Prop}{ρ:Pl}{s r:ByteArray}{v:Value}(h:RelV w L ρ (.agg [.val (.string s),.val (.string r)]) v):v=C1 (s,r):=by
 obtain⟨vs,rfl,hl,hr⟩:=h.agg_out
 simp only[a0j,a0m]at hl
 have h0:=(hr 0 _ _ rfl (a0b (by omega))).val_eq
 have h1:=(hr 1 _ _ rfl (a0b (by omega))).val_eq
 match vs,hl,h0,h1 with
 |[a,b],_,h0,h1=>
  simp only[List.getElem_cons_zero,List.getElem_cons_succ]at h0 h1
  subst h0 h1
  rfl
theorem p2v{k c:TypeId}{b:Nat}{s q:ByteArray}{r:AV}{v:Value}{es:List ((ByteArray×ByteArray)×Value)}[hu:HasU P t (.map k e)][hk:HasU P k (.array 2 c)][hc:HasU P c .string][hi:HasS P c 1](hx:evT tm x=some (.mp b))(hb:H.at b=.map (F7 es))(hy:evT tm y=some (.agg [.val (.string s),.val (.string q)]))(hz:evT tm z=some r)(hv:r.flat=some v)(h:Reg none P N ops rest tm (H.put b (.map (F7 (Ji es (s,q) v)))) K):Reg none P N ops (⟨none,.mapUpdate t x y z,ty,pos,af,none⟩::rest) tm H K:=by
 refine⟨fun E a w ρ hE hr=>?_⟩
 replace h:=h.out
 refine wpList_plain rfl fun K' hK=>?_
 obtain⟨k0,entries,clock,g1,g2,g3,g4⟩:=hr.H.map b _ hb
 have h1:=(hr.ev (x:=x) (by rw[Am];exact hx)).mp_out k0 0 g1
 have h2:=Zh (hr.ev (x:=y) (by rw[Am];exact hy))
 have h3:=(hr.ev (x:=z) (by rw[Am];exact hz)).flat hv
 have hget:(getObj k0).run P w=.ok (.map entries clock) w:=by simp[getObj,Sem.run,g2]
 have hset:∀o,(setObj k0 o).run P w=.ok () {w with heap:=w.heap.setIfInBounds k0 o}:=fun o=>by simp[setObj,Sem.run,g2]
 have hck:(Instr.checkKey false 10000 k (C1 (s,q))).run P w=.ok () w:=Q8 hk.out hc.out hi.out false 9998 (s,q) w
 have hfind:=Qq hk.out entries.toList (s,q) w
 unfold Oper.wp
 rcases Jb hk.out hc.out hi.out (s,q) v w entries.toList es 0 g4 with⟨j,u',f1,_,f2,f3⟩|⟨f1,_,f2⟩
 ·rw[a1n]at f1
  have hkey:((entries[j]?).map (·.key)).getD (C1 (s,q))=C1 (s,q):=by
   have:entries[j]?=entries.toList[j]?:=by simp
   rw[this,f2];rfl
  have hstay:(Instr.keyThatStays (C1 (s,q)) (C1 (s,q))).run P w=.ok (C1 (s,q)) w:=by
   have hss:Instr.sameBits 10000 (C1 (s,q)) (C1 (s,q))=true:=by
    simp[C1,Instr.sameBits,Qj]
   simp only[Instr.keyThatStays,hss,if_true,a1m]
  have hrun:(execOp a.eval ⟨none,.mapUpdate t x y z,ty,pos,af,none⟩).run P w=.ok .skip {w with heap:=w.heap.setIfInBounds k0 (.map (entries.modify j fun e=>{e with key:=C1 (s,q),val:=v}) clock)}:=by
   simp only[execOp,h1,h2,h3,Instr.mapUpdate,a0t,run_underlying hu.out,a0o,hget,hck,hfind,f1,hkey,hstay,hset,a1m]
  rw[hrun]
  exact hK _ _ (h E _ _ _ hE (hr.setMap hb g1 _ _ (by rw[b2o];exact f3)))
 ·have hrun:(execOp a.eval ⟨none,.mapUpdate t x y z,ty,pos,af,none⟩).run P w=.ok .skip {w with heap:=w.heap.setIfInBounds k0 (.map (entries.push {key:=C1 (s,q),val:=v,born:=clock}) (clock+1))}:=by
   simp only[execOp,h1,h2,h3,Instr.mapUpdate,a0t,run_underlying hu.out,a0o,hget,hck,hfind,f1,hset,a1m]
  rw[hrun]
  exact hK _ _ (h E _ _ _ hE (hr.setMap hb g1 _ _ (by rw[Array.toList_push];exact f2 clock)))
theorem p3v{k c:TypeId}{b:Nat}{s q:ByteArray}{zv:Value}{es:List ((ByteArray×ByteArray)×Value)}[hu:HasU P t (.map k e)][hk:HasU P k (.array 2 c)][hc:HasU P c .string][hi:HasS P c 1][hz:HasZ P e zv](hx:evT tm x=some (.mp b))(hb:H.at b=.map (F7 es))(hy:evT tm y=some (.agg [.val (.string s),.val (.string q)]))(hN:LN d N)(hall:∀u,Fj es (s,q)=some u->u=zv)(h:Reg none P N ops rest ((d,.tup [.cst zv,.val (.bool (decide (Fj es (s,q)≠none)))])::tm) H K):Reg none P N ops (⟨some d,.lookup t x y true,ty,pos,af,none⟩::rest) tm H K:=by
 refine⟨fun E a w ρ hE hr=>?_⟩
 replace h:=h.out
 refine wpList_plain rfl fun K' hK=>?_
 obtain⟨k0,entries,clock,g1,g2,g3,g4⟩:=hr.H.map b _ hb
 have h1:=(hr.ev (x:=x) (by rw[Am];exact hx)).mp_out k0 0 g1
 have h2:=Zh (hr.ev (x:=y) (by rw[Am];exact hy))
 have hget:(getObj k0).run P w=.ok (.map entries clock) w:=by simp[getObj,Sem.run,g2]
 have hck:∀em,(Instr.checkKey em 10000 k (C1 (s,q))).run P w=.ok () w:=fun em=>Q8 hk.out hc.out hi.out em 9998 (s,q) w
 have hfind:=Qq hk.out entries.toList (s,q) w
 unfold Oper.wp
 have hrun:(execOp a.eval ⟨some d,.lookup t x y true,ty,pos,af,none⟩).run P w=.ok (.value (.tuple #[zv,.bool (decide (Fj es (s,q)≠none))])) w:=by
  rcases Jb hk.out hc.out hi.out (s,q) zv w entries.toList es 0 g4 with⟨j,u',f1,f2,_⟩|⟨f1,f2,_⟩
  ·have:=hall _ f2
   subst this
   simp[execOp,h1,h2,Instr.lookup,a0t,run_underlying hu.out,hget,hck,hfind,f1,f2]
  ·simp[execOp,h1,h2,Instr.lookup,a0t,run_underlying hu.out,hget,hck,hfind,f1,f2,Gc hz.out]
 rw[hrun]
 refine hK _ _ (h E _ _ _ hE (hr.put (by rw[hE];exact a0c hN) ?_))
 refine .tup _ [zv,.bool _] rfl fun i a' v' ha hv=>?_
 match i,ha,hv with
 |0,ha,hv=>injection ha with ha;injection hv with hv;subst ha hv;exact Po zv
 |1,ha,hv=>injection ha with ha;injection hv with hv;subst ha hv;exact Ab _
 |i+2,ha,hv=>simp at ha
end
def lfs:List AV->Option (List Lf)
 |[]=>some []
 | .lf x::r=>match lfs r with
  |none=>none
  |some l=>some (x::l)
 |_::_=>none
theorem A1q:∀{out:List AV}{cs:List Lf},lfs out=some cs->out=cs.map .lf
 |[],cs,h=>by simp only[lfs,a0h]at h;subst h;rfl
 |x::r,cs,h=>by
  cases x with
  |lf y=>
   simp only[lfs]at h
   cases e:lfs r with
   |none=>simp[e]at h
   |some l=>
    simp only[e,a0h]at h
    subst h
    rw[a2g,<-A1q e]
  |_=>simp[lfs]at h
def chunks:Nat->Nat->List Lf->List (List Lf)
 |0,_,_=>[]
 |k+1,n,l=>takeN n l::chunks k n (Sa n l)
where takeN:Nat->List Lf->List Lf
 |0,_=>[]
 |_,[]=>[]
 |k+1,x::l=>x::takeN k l
theorem Uz:∀(n:Nat)(l:List Lf),chunks.takeN n l=l.take n
 |0,_=>by simp[chunks.takeN]
 |n+1,[]=>by simp[chunks.takeN]
 |n+1,x::l=>by simp[chunks.takeN,Uz n l]
theorem La(k n:Nat)(l:List Lf):(chunks k n l).length=k:=by
 induction k generalizing l with
 |zero=>rfl
 |succ k ih=>simp[chunks,ih]
theorem Qm{n:Nat}:∀(k:Nat)(l:List Lf)(i:Nat)(row:List Lf),l.length=k*n->(chunks k n l)[i]?=some row->row.length=n/\∀(j:Nat)(x:Lf),row[j]?=some x->l[i*n+j]?=some x
 |0,l,i,row,_,h=>by simp[chunks]at h
 |k+1,l,0,row,hl,h=>by
  have hkn:(k+1)*n=k*n+n:=a7m k n
  simp only[chunks,a2f,a0h,Uz]at h
  subst h
  refine⟨by rw[a0x];omega,fun j x hj=>?_⟩
  rw[b2a,a1n]
  rw[a6s]at hj
  split at hj
  ·exact hj
  ·cases hj
 |k+1,l,i+1,row,hl,h=>by
  have hkn:(k+1)*n=k*n+n:=a7m k n
  have hin:(i+1)*n=i*n+n:=a7m i n
  simp only[chunks,a2l,M9]at h
  obtain⟨g1,g2⟩:=Qm k (l.drop n) i row (by rw[a4z];omega) h
  refine⟨g1,fun j x hj=>?_⟩
  have:=g2 j x hj
  rw[a2r]at this
  rw[hin,<-this]
  congr 1
  omega
def Gp(zv:Value)(k:Nat):List AV:=(List.range k).map fun j=>.val (zv.cells[j%zv.cells.size]!)
section
variable {P:Program}{N:Nat}{ops:Array Oper}{m:Option Nat}{K:Tm->AH->Prop}{tm:Tm}{H:AH}{rest:List Oper}{ty:TypeId}{pos:String}{af:Array Edge}{d:Nat}{t e:TypeId}
theorem p0m{ps:Array (Nat×Operand)}{len n:Nat}{zv:Value}{ys:List (Nat×AV)}{out:List AV}{cs:List Lf}{rows:List (List Lf)}[hu:HasU P t (.slice e)][hi:HasS P e n][hz:HasZ P e zv](h1:Nat.ble 1 (len*n)=true)(h2:Nat.ble (len*n) 16777216=true)(hy:Ew (evT tm) ps.toList=some ys)(ho:Hl (fun(i:Nat)=>some (i*n,n)) ys (Gp zv (len*n))=some out)(hc:lfs out=some cs)(hl:Nat.beq cs.length (len*n)=true)(hr:chunks len n cs=rows)(hN:LN d N)(h:Reg m P N ops rest ((d,.sl rows)::tm) H K):Reg m P N ops (⟨some d,.buildSlice t len ps,ty,pos,af,none⟩::rest) tm H K:=by
 subst hr
 have h1':=a0c h1
 have h2':=a0c h2
 refine S.val (fun E st a w ρ K' Q hr he hH hn hK=>?_) hN h
 obtain⟨g1,g2⟩:=Ks (w:=w) (L:=E.L) (ρ:=ρ) (η:=a.eval) hy fun x hx y hxy=>hr.ev (he x (by simpa[Op.operands]using hx) y hxy)
 have hcr:I9 w E.L ρ (Gp zv (len*n)) ((Array.range (len*n)).map (zv.cells[· %zv.cells.size]!)):=⟨by simp[Gp],fun j x hx=>by
  unfold Gp at hx
  rw[a0d]at hx
  by_cases hj:j<len*n
  ·rw[a2u hj]at hx
   simp only[a1g,a0h]at hx
   subst hx
   exact⟨_,by rw[b3m,b2i,if_pos hj];rfl,Ab _⟩
  ·rw[a0v (by simpa using hj)]at hx
   cases hx⟩
 obtain⟨r,h3,h4,h5⟩:=Ju ys _ _ _ out g1 g2 hcr ho
 have h3':Instr.fill (fun i=>some (i*n,n)) ((Array.range (len*n)).map (zv.cells[· %zv.cells.size]!)) (List.map (fun x=>(x.fst,a.eval x.snd)) ps.toList)=some r:=by rw[<-h3,a7o]
 have hw:(execOp a.eval ⟨some d,.buildSlice t len ps,ty,pos,af,none⟩).run P w=.ok (.value (.slice (some ⟨w.heap.size,0,none⟩) len len)) (w.alloc (.cells r e)):=by
  have n0:¬len*n=0:=by omega
  have n1:¬2^24<len*n:=by omega
  simp only[execOp,Instr.buildSlice,a0t,run_underlying hu.out,Ax hi.out,a0o]
  simp[n0,n1,Gc hz.out,h3',newRow,a0t]
 have hbel:Below w.heap.size w (w.alloc (.cells r e)):=Below.alloc (Below.refl _ _) (a0n _) _
 have hrel:=hr.below hbel
 unfold Oper.wp
 rw[hw]
 refine hK _ ρ _ hrel (.lf _ _ ?_)
 have hcs:=A1q hc
 have hlc:cs.length=len*n:=a2b hl
 have key:=RelL.sl (w:=w.alloc (.cells r e)) (F:=Fb E.L ρ) (chunks len n cs) ⟨w.heap.size,0,none⟩ len (fun i j=>(r[i*n+j]?).getD undef) (.inl rfl) (by rw[La];exact a0n _) (fun i row j x hi hj=>?_) (fun i row j x hi hj=>?_)
 ·rw[La]at key;exact key
 all_goals
  obtain⟨q1,q2⟩:=Qm len cs i row hlc hi
  have q3:=q2 j x hj
  obtain⟨v,q4,q5⟩:=h5 (i*n+j) (.lf x) (by rw[hcs,a0d,q3];rfl)
 ·refine⟨fun hF=>Nat.lt_irrefl _ (hr.fb_lt _ hF),?_⟩
  rw[q1,q4]
  have hheap:=Bz w (.cells r e)
  unfold World.cell?
  simp only[a1n]
  rw[hheap]
  exact q4
 ·rw[q4]
  exact(q5.later (Gl hbel)).lf_out
def T4:Value->AV
 | .slice none 0 0=>.sl []
 |v=>.val v
theorem Wp{w:World}{L:Nat->Prop}{ρ:Pl}(v:Value):RelV w L ρ (T4 v) v:=by
 unfold T4
 split
 ·exact .lf _ _ .slnil
 ·exact Ab _
theorem p0y{ps:Array (Nat×Operand)}{l:List (Nat×Nat)}{zs:Array Value}{ys:List (Nat×AV)}{out:List AV}[hl:HasL P t l][hz:HasZ P t (.agg zs)](hy:Ew (evT tm) ps.toList=some ys)(ho:Hl (fun(i:Nat)=>l[i]?) ys (zs.toList.map T4)=some out)(hN:LN d N)(h:Reg m P N ops rest ((d,.agg out)::tm) H K):Reg m P N ops (⟨some d,.build t ps,ty,pos,af,none⟩::rest) tm H K:=by
 refine S.val (OpV.mk fun L w ρ η hη hH=>?_) hN h
 obtain⟨fs,h1,h2⟩:=hl.out
 obtain⟨g1,g2⟩:=Ks (w:=w) (L:=L) (ρ:=ρ) hy fun x hx y he=>hη x (by simpa[Op.operands]using hx) y he
 have hc:I9 w L ρ (zs.toList.map T4) zs:=⟨by simp,fun j x hx=>by
  rw[a0d]at hx
  cases e:zs.toList[j]? with
  |none=>rw[e]at hx;cases hx
  |some v=>
   rw[e]at hx
   simp only[a1g,a0h]at hx
   subst hx
   exact⟨v,by simpa using e,Wp v⟩⟩
 obtain⟨r,h3,h4,h5⟩:=Ju ys _ _ zs out g1 g2 hc ho
 refine⟨.agg r,?_,?_⟩
 ·have hplace:(fun(i:Nat)=>l.toArray[i]?)=(fun(i:Nat)=>l[i]?):=by funext i;simp
  simp only[execOp,Instr.build,a0t,Gc hz.out,run_underlying h1,a0o,h2,Value.cells]
  rw[hplace,h3]
  simp only[a1m,a0o]
 ·have:r=r.toList.toArray:=by simp
  rw[this]
  refine .agg out r.toList (by simpa using h4) fun i x v hx hv=>?_
  obtain⟨v',h6,h7⟩:=h5 i x hx
  simp only[a7j]at hv
  rw[h6]at hv
  injection hv with hv
  subst hv
  exact h7
end
theorem Md{Q Q':Exit->Act->World->Prop}(hQ:∀e a w,e≠.normal->Q e a w->Q' e a w)(h:LetsOut Q):LetsOut Q':=h.elim fun a h=>h.elim fun w h=>⟨a,w,hQ _ _ _ (fun e=>by cases e) h⟩
theorem Aam{P:Program}{o:Oper}{a:Act}{w:World}{K K':Act->World->Prop}{Q Q':Exit->Act->World->Prop}(h:∀a w,K a w->K' a w)(hQ:∀e a w,e≠.normal->Q e a w->Q' e a w)(hh:o.wp P a w K Q):o.wp P a w K' Q':=by
 unfold Oper.wp at*
 generalize(execOp a.eval o).run P w=r at*
 cases r with
 |ok n w'=>
  cases n<;>simp only[Oper.upon]at hh⊢<;>
   first
    |exact h _ _ hh
    |exact Calls.mono hh (fun e w'' he=>by cases e<;>first|exact h _ _ he|exact hQ _ _ _ (fun e=>by cases e) he|exact Md hQ he)
    |exact Rows.mono hh (fun _ _ he=>h _ _ he)
    |exact hQ _ _ _ (fun e=>by cases e) hh
    |exact hh
 |halt x w'=>cases x<;>simp only[Oper.upon]at hh⊢<;>first|exact hQ _ _ _ (fun e=>by cases e) hh|exact Md hQ hh|exact hh
section
variable {P:Program}{N:Nat}{ops:Array Oper}
def Qg(K:Tm->AH->Prop)(E:Env)(e:Exit)(a:Act)(w:World):Prop:=e=.normal/\∃st ρ,K st.tm st.H/\RelSt E st a w ρ
structure Ords(P:Program)(N:Nat)(ops:Array Oper)(K:Tm->AH->Prop)(n:Nat)(listed:Array Bool)(tm:Tm)(H:AH):Prop where
 out:∀(E:Env)(a:Act)(w:World)(ρ:Pl),E.N=N->RelSt E ⟨tm,H⟩ a w ρ->wpAny P .any ops (Qg K E) n listed a w
theorem Ords.nil{K:Tm->AH->Prop}{listed:Array Bool}{tm:Tm}{H:AH}(hr:Region.ready .any ops listed=[])(h:K tm H):Ords P N ops K 0 listed tm H:=⟨fun _ _ _ ρ _ hs=>⟨hr,rfl,⟨tm,H⟩,ρ,h,hs⟩⟩
theorem p1w{K:Tm->AH->Prop}{n i:Nat}{listed:Array Bool}{tm:Tm}{H:AH}{o:Oper}(ho:ops[i]?=some o)(h:Reg none P N ops [o] tm H (Ords P N ops K n (listed.setIfInBounds i true)))(E:Env)(a:Act)(w:World)(ρ:Pl)(hE:E.N=N)(hs:RelSt E ⟨tm,H⟩ a w ρ):wpOp P ops (Qg K E) i (wpAny P .any ops (Qg K E) n (listed.setIfInBounds i true)) a w:=by
 have h1:wpList P ops _ [o] a w:=h.out E a w ρ hE hs
 unfold wpOp
 rw[ho]
 unfold wpList at h1
 simp only
 split at h1
 ·rename_i hw
  rw[if_pos hw]
  refine h1.imp (fun h2=>Aam (fun a' w' h3=>?_) (fun e a' w' hn h3=>absurd h3.1 hn) h2) (fun h2=>⟨h2.1,Md (fun e a' w' hn h3=>absurd h3.1 hn) h2.2⟩)
  obtain⟨_,st',ρ',g1,g2⟩:=h3
  exact g1.out E a' w' ρ' hE g2
 ·rename_i hw
  rw[if_neg hw]
  obtain⟨_,st',ρ',g1,g2⟩:=h1
  exact g1.out E _ w ρ' hE g2
theorem Ords.one{K:Tm->AH->Prop}{n i:Nat}{listed:Array Bool}{tm:Tm}{H:AH}{o:Oper}(hr:Region.ready .any ops listed=[i])(ho:ops[i]?=some o)(h:Reg none P N ops [o] tm H (Ords P N ops K n (listed.setIfInBounds i true))):Ords P N ops K (n+1) listed tm H:=⟨fun E _ _ ρ hE hs=>by
 refine⟨fun h=>(by rw[hr]at h;cases h),fun k hk=>?_⟩
 rw[hr]at hk
 obtain rfl:k=i:=by simpa using hk
 exact p1w ho h E _ _ ρ hE hs⟩
theorem p0a{K:Tm->AH->Prop}{n i j:Nat}{listed:Array Bool}{tm:Tm}{H:AH}{o q:Oper}(hr:Region.ready .any ops listed=[i,j])(ho:ops[i]?=some o)(hq:ops[j]?=some q)(h:Reg none P N ops [o] tm H (Ords P N ops K n (listed.setIfInBounds i true)))(h2:Reg none P N ops [q] tm H (Ords P N ops K n (listed.setIfInBounds j true))):Ords P N ops K (n+1) listed tm H:=⟨fun E _ _ ρ hE hs=>by
 refine⟨fun h=>(by rw[hr]at h;cases h),fun k hk=>?_⟩
 rw[hr]at hk
 rcases(by simpa using hk:k=i\/k=j)with rfl|rfl
 ·exact p1w ho h E _ _ ρ hE hs
 ·exact p1w hq h2 E _ _ ρ hE hs⟩
theorem p0v{id:Nat}{y:Code}{Q:Exit->St->Prop}{tm:Tm}{H:AH}(hm:P.follows .mixedOrders=true)(h:Ords P N ops (fun tm H=>T P N y ⟨tm,H⟩ Q) ops.size (Array.replicate ops.size false) tm H):T P N (.seq (.region id ops true) y) ⟨tm,H⟩ Q:=by
 refine T.seq ⟨fun E a w ρ hE hr=>?_⟩
 have hr':RelSt E ⟨tm,H⟩ a {w with drawn:=w.drawn+1} ρ:=hr.below ⟨rfl,rfl,rfl,a0n _,fun _ _=>rfl⟩
 refine wp_mono (wp_region_any hm (h.out E a _ ρ hE hr')) ?_
 rintro e a' w' ⟨rfl,st',ρ',g1,g2⟩
 exact⟨st',ρ',g1,g2⟩
end
theorem Fo{P:Program}{f:FuncId}{fn:Func}{c:Code}{args:List AV}{r:AV}{N:Nat}{tm:Tm}(hf:P.funcs[f]?=some fn)(h:T P N c ⟨tm,[]⟩ (Ao P fn r))(hnt:fn.ntmps=N:=by conv=>lhs;whnf)(hb:fn.body=some c:=by rfl)(hn:(fn.name== "runtime.NumGoroutine")=false:=by rfl)(hN:Nat.ble args.length N=true:=by rfl)(he:Ak 0 args=tm:=by(simp only[Ak];rfl)):Fn0 P f args r:=by subst he;exact Fn0.of hf hnt hb hn hN h
theorem Dd{P:Program}{fn:Func}{t0:Nat}{v v':Value}{tm:Tm}{H:AH}{e:Exit}(hr:fn.results.toList=[.tmp t0])(h:tm.get t0=some (.val v))(hv:v=v')(he:e=.normal\/e=.ret:=by simp):Ao P fn (.val v') e ⟨tm,H⟩:=⟨he,[.val v],by rw[hr];exact .cons (.tmp h) .nil,hv▸.one (.one (.lf _))⟩
theorem Da{G R:Prop}(r:R)(h:Rest R->G:=by intro r;apply p0u A8 (by decide+kernel);exact r.out):G:=h ⟨r⟩
theorem Dw(n:Nat){G R:Prop}(r:R)(h:∀m,m=n->Rest R->G:=by intro m e r;apply p5p m A8;(subst e;decide+kernel);subst e;simp only[a3t,a4s,a6k,a8e];exact r.out):G:=h n rfl ⟨r⟩
theorem Dn(k n:Nat){G R:Prop}(r:R)(h:∀i m,i=k->m=n->Rest R->G:=by intro i m d e r;apply p4x i m A8;(subst d;subst e;decide+kernel);subst d;subst e;simp only[a3t,a4s,a6k,a8e];exact r.out):G:=h k n rfl rfl ⟨r⟩
theorem Zc{P:Program}{f:FuncId}{ys:List AV}{q:AV}(hp:Fn0 P f ys q){G R:Prop}(r:R)(h:Fn0 P f ys q->Rest R->G:=by intro hp r;apply S.call;exact rfl;exact rfl;exact hp;exact rfl;exact r.out):G:=h hp ⟨r⟩
theorem Zi{rows:List (List Lf)}{i:Nat}{row:List Lf}(hb:rows[i]?=some row){G R:Prop}(r:R)(h:rows[i]?=some row->Rest R->G:=by intro hb r;apply S.indexR;(iterate 3 exact rfl);exact hb;omega;exact rfl;exact r.out):G:=h hb ⟨r⟩
theorem Za{G R:Prop}(r:R)(h:Rest R->G:=by intro r;apply S.arith;(iterate 4 exact rfl);omega;exact r.out):G:=h ⟨r⟩
theorem D2{P:Program}{fn:Func}{t0 t1:Nat}{x y:Lf}{tm:Tm}{H:AH}(hr:fn.results.toList=[.tmp t0,.tmp t1])(h0:tm.get t0=some (.lf x))(h1:tm.get t1=some (.lf y)):Ao P fn (.tup [.lf x,.lf y]) .ret ⟨tm,H⟩:=⟨.inr rfl,[.lf x,.lf y],by rw[hr];exact .cons (.tmp h0) (.cons (.tmp h1) .nil),.tup (.cons (.one (.lf _)) (.cons (.one (.lf _)) .nil))⟩
theorem td{α:Type}:(∀(n:Nat)(a:α)(l:List α),(a::l).take (n+1)=a::l.take n)/\(∀l:List α,l.take 0=[])/\(∀(n:Nat)(a:α)(l:List α),(a::l).drop (n+1)=l.drop n)/\(∀l:List α,l.drop 0=l):=⟨fun _ _ _=>rfl,fun _=>rfl,fun _ _ _=>rfl,fun _=>rfl⟩
theorem Zb4{G R:Prop}(r:R)(h:Rest R→G:=by intro r;apply p0m;(iterate 8 exact rfl);exact r.out):G:=h ⟨r⟩
theorem Zb5{G R:Prop}(r:R)(h:Rest R→G:=by intro r;apply p0i;(iterate 4 exact rfl);exact r.out):G:=h ⟨r⟩
theorem Zb8{A0:Prop}(a0:A0){G R:Prop}(r:R)(h:A0→Rest R→G:=by intro a0 r;apply S.loadP;exact rfl;exact rfl;exact a0;exact rfl;exact r.out):G:=h a0 ⟨r⟩
theorem Zbb{G R:Prop}(r:R)(h:Rest R→G:=by intro r;apply S.lenO;(iterate 3 exact rfl);exact r.out):G:=h ⟨r⟩
theorem Zbc{G R:Prop}(r:R)(h:Rest R→G:=by intro r;apply Ords.nil;decide+kernel;exact r.out):G:=h ⟨r⟩
theorem Zbe{G R:Prop}(r:R)(h:Rest R→G:=by intro r;apply S.idxAP;(iterate 4 exact rfl);exact⟨by decide,by decide⟩;exact rfl;exact r.out):G:=h ⟨r⟩
theorem Zbi{A0:Prop}(a0:A0){G R:Prop}(r:R)(h:A0→Rest R→G:=by intro a0 r;apply S.call;exact rfl;exact rfl;exact a0;exact rfl;exact r.out):G:=h a0 ⟨r⟩
theorem Zbj{G R:Prop}(r:R)(h:Rest R→G:=by intro r;apply p0y;(iterate 3 exact rfl);exact r.out):G:=h ⟨r⟩
theorem Zbq{G R:Prop}(r:R)(h:Rest R→G:=by intro r;apply S.idxAR;(iterate 3 exact rfl);exact⟨by decide,by decide⟩;exact rfl;exact r.out):G:=h ⟨r⟩
theorem Zbx{A0:Prop}(a0:A0){A1:Prop}(a1:A1){G R:Prop}(r:R)(h:A0→A1→Rest R→G:=by intro a0 a1 r;apply S.callF;exact rfl;exact rfl;exact a0;exact a1;exact rfl;exact r.out):G:=h a0 a1 ⟨r⟩
theorem Zd2{G R:Prop}(r:R)(h:Rest R→G:=by intro r;apply S.neg;exact rfl;exact rfl;omega;exact r.out):G:=h ⟨r⟩
theorem Zd8{A0:Prop}(a0:A0){A1:Prop}(a1:A1){G R:Prop}(r:R)(h:A0→A1→Rest R→G:=by intro a0 a1 r;apply S.indexR;(iterate 3 exact rfl);exact a0;omega;exact a1;exact r.out):G:=h a0 a1 ⟨r⟩
theorem Zdc{G R:Prop}(r:R)(h:Rest R→G:=by intro r;apply S.quo;(iterate 3 exact rfl);omega;exact r.out):G:=h ⟨r⟩
end Go.Proofs.YtcaicpnepfjcmaaGreat
