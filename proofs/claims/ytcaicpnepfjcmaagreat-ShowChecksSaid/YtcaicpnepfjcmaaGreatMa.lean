/- Lemmas of the proof. -/
import Derived.Test.YtcaicpnepfjcmaaGreatProg
import Derived.Deep.MidRow
import Derived.Below
import Derived.WalkSmall
import Derived.Lib.LaidTab
import Derived.Lib.ItoaNum
import Derived.OneCell
import Derived.Lib.FrozenHead
set_option linter.all false
namespace Go.Proofs.YtcaicpnepfjcmaaGreat
open Go Go.RowKit
def a0a:= @List.mem_of_getElem?
def a0b:= @List.getElem?_eq_getElem
def a0c:= @Nat.le_of_ble_eq_true
def a0d:= @List.getElem?_map
def a0e:= @List.length_map
def a0f:= @List.getElem?_eq_some_iff
def a0h:= @Option.some.injEq
def a0l:= @List.all_eq_true
def a0m:= @List.length_nil
def a0n:= @Nat.le_refl
def a0o:= @Result.andThen_ok
def a0r:= @Array.getD_eq_getD_getElem?
def a0t:= @Sem.run_bind
def a0v:= @List.getElem?_eq_none
def a0w:= @Bool.and_eq_true
def a0y:= @Nat.lt_or_ge
def a0z:= @List.eq_nil_of_length_eq_zero
def a1a:= @Option.getD_some
def a1m:= @Sem.run_pure
def a1n:= @Nat.zero_add
def a1o:= @List.getElem?_take_of_lt
def a1r:= @Array.getElem?_append_left
def a1t:= @Nat.add_assoc
def a1v:= @Option.bind_some
def a2b:= @Nat.eq_of_beq_eq_true
def a2d:= @Nat.le_trans
def a2e:= @Array.getElem?_eq_getElem
def a2r:= @List.getElem?_drop
def a2u:= @List.getElem?_range
def a3b:= @Nat.add_zero
def a3d:= @World.cell?_of_block
def a3l:= @Array.getElem?_setIfInBounds
def a4p:= @Array.mem_toList_iff
def a5a:= @Next.enter.injEq
def a5b:= @Bool.false_eq_true
def a5g:= @Nat.lt_of_lt_of_le
def a5o:= @Result.ok.injEq
def a5t:= @Array.mem_append
def a5v:= @Array.getElem?_eq_none
def a6e:= @Nat.sub_zero
def a6m:= @Array.ext'
def a6p:= @Nat.beq_refl
def a7o:= @Array.toList_map
def a8f:= @List.mapM_cons
def a8n:= @Array.getElem?_modify
def a9r:= @List.ext_getElem?
def a9s:= @List.getElem?_set
def b3b:= @Ne.symm
theorem lmA{α β:Type}(l:List α)(f:α->β):(l.map f).length=l.length:=a0e _
abbrev LN(d N:Nat):Prop:=Nat.ble (d+1) N=true
def A4o(w:World)(g:Nat):Prop:=∃v,w.cell? ⟨g,0,none⟩=some v/\(v=.nilIface\/∃te pe,v=.iface te pe)
structure Glob(w:World):Prop where
 tab:Tryz.prog.globalNamed "internal/strconv.uint64pow10" ≠none->Lib.TabIs Tryz.prog w "internal/strconv.uint64pow10" .u64 Lib.pow10Tab
 len:∀g,Tryz.prog.globalNamed "internal/bytealg.MaxLen" =some g->∃m:Int,w.cell? ⟨g,0,none⟩=some (.int .i64 m)
 syn:∀g,Tryz.prog.globalNamed "strconv.ErrSyntax" =some g->A4o w g
 ran:∀g,Tryz.prog.globalNamed "strconv.ErrRange" =some g->A4o w g
theorem Oj{w w':World}(hb:Below w.heap.size w w'){g:Nat}{v:Value}(h:w.cell? ⟨g,0,none⟩=some v):w'.cell? ⟨g,0,none⟩=some v:=by
 unfold World.cell? at h⊢
 simp only[]at h⊢
 have hg:g<w.heap.size:=by
  rcases a0y g w.heap.size with hk|hk
  ·exact hk
  ·rw[a5v hk]at h;cases h
 rw[hb.block g hg]
 exact h
theorem Glob.below{w w':World}(h:Glob w)(hb:Below w.heap.size w w'):Glob w' where
 tab hn:=by
  have ht:=h.tab hn
  cases hg:Tryz.prog.globalNamed "internal/strconv.uint64pow10" with
  |none=>exact absurd hg hn
  |some g=>exact var?_below hb hg (block_lt_of_cell (Lib.TabIs.cell ht hg 0 (by decide))) ht
 len g hg:=by obtain⟨m,hm⟩:=h.len g hg;exact⟨m,Oj hb hm⟩
 syn g hg:=by obtain⟨v,hv,h2⟩:=h.syn g hg;exact⟨v,Oj hb hv,h2⟩
 ran g hg:=by obtain⟨v,hv,h2⟩:=h.ran g hg;exact⟨v,Oj hb hv,h2⟩
theorem Glob.none{w:World}(h1:Tryz.prog.globalNamed "internal/strconv.uint64pow10" =Option.none)(h2:Tryz.prog.globalNamed "internal/bytealg.MaxLen" =Option.none)(h3:Tryz.prog.globalNamed "strconv.ErrSyntax" =Option.none)(h4:Tryz.prog.globalNamed "strconv.ErrRange" =Option.none):Glob w:=
 ⟨fun h=>absurd h1 h,fun g h=>(by rw[h2]at h;cases h),fun g h=>(by rw[h3]at h;cases h),fun g h=>(by rw[h4]at h;cases h)⟩
noncomputable def Aj4(t:TypeId):Array Value:=match(Tryz.prog.info? t).bind (·.zero)with|some (.agg zs)=>zs.extract 2 zs.size|_=> #[]
class HasU(P:Program)(t:TypeId)(d:outParam TypeDesc):Prop where out:P.underlying t=some d
class HasS(P:Program)(t:TypeId)(n:outParam Nat):Prop where out:(P.info? t).map (·.size)=some n
def Al(P:Program)(t:TypeId):Array Field:=match P.underlying t with|some (.struct fs)=>fs|_=> #[]
class HasF(P:Program)(t:TypeId)(i:Nat)(off:outParam Nat):Prop where out:∃fs f n,P.underlying t=some (.struct fs)/\fs[i]?=some f/\(P.info? f.type).map (·.size)=some n/\Nat.beq n 0=false/\f.offset=off
class HasZ(P:Program)(t:TypeId)(z:outParam Value):Prop where out:(P.info? t).bind (·.zero)=some z
class HasB(P:Program)(t:TypeId)(n:outParam Nat):Prop where out:(P.info? t).map (·.bytes)=some n
class HasL(P:Program)(t:TypeId)(l:outParam (List (Nat×Nat))):Prop where out:∃fs,P.underlying t=some (.struct fs)/\∀w,(fs.mapM fun f=>do pure (f.offset,<-sizeOf f.type):Sem (Array (Nat×Nat))).run P w=.ok l.toArray w
inductive Lf where
 |val (v:Value)
 |sl (rows:List (List Lf))
 |fn (f:Fn) (caps:List (List Lf))
 deriving Inhabited
inductive AV where
 |lf (x:Lf)
 |agg (cs:List AV)
 |tup (vs:List AV)
 |rop (cs:List Lf)
 |ptr (b off:Nat)
 |own (b off len st:Nat)
 |fn (f:Fn) (first captured:List AV)
 |mp (b:Nat)
 |err
 deriving Inhabited
abbrev AV.val(v:Value):AV:=.lf (.val v)
abbrev AV.sl(rows:List (List Lf)):AV:=.lf (.sl rows)

abbrev Pl:=Nat->Option (Option (Nat×Nat))
def Fb(L:Nat->Prop)(ρ:Pl)(k:Nat):Prop:=L k\/∃b o,ρ b=some (some (k,o))
def Ba:Pl:=fun _=>none
theorem F2(L:Nat->Prop)(k:Nat):Fb L Ba k↔L k:=⟨fun h=>h.elim id (fun⟨_,_,h⟩=>by cases h),.inl⟩

inductive RelL(w:World)(F:Nat->Prop):Lf->Value->Prop
 |val (v:Value):RelL w F (.val v) v
 |slnil:RelL w F (.sl []) (.slice none 0 0)
 |sl (rows:List (List Lf)) (ad:Addr) (cap:Nat) (V:Nat->Nat->Value) (hs:ad.spot=none\/cap=0) (hc:rows.length<=cap)
  (h1:∀(i:Nat)(row:List Lf)(j:Nat)(x:Lf),rows[i]?=some row->row[j]?=some x->¬F ad.block/\w.cell? ⟨ad.block,ad.off+(i*row.length+j),none⟩=some (V i j))
  (h2:∀(i:Nat)(row:List Lf)(j:Nat)(x:Lf),rows[i]?=some row->row[j]?=some x->RelL w F x (V i j)):RelL w F (.sl rows) (.slice (some ad) rows.length cap)
 |fn (f:Fn) (caps:List (List Lf)) (ads:List Addr) (V:Nat->Nat->Value) (hl:caps.length=ads.length) (hs:∀(i:Nat)(ad:Addr),ads[i]?=some ad->ad.spot=none)
  (h1:∀(i:Nat)(cs:List Lf)(ad:Addr)(j:Nat)(x:Lf),caps[i]?=some cs->ads[i]?=some ad->cs[j]?=some x->¬F ad.block/\w.cell? ⟨ad.block,ad.off+j,none⟩=some (V i j))
  (h2:∀(i:Nat)(cs:List Lf)(j:Nat)(x:Lf),caps[i]?=some cs->cs[j]?=some x->RelL w F x (V i j)):RelL w F (.fn f caps) (.func f #[] (ads.map fun ad=>Value.pointer (some ad)).toArray)

inductive RelV(w:World)(L:Nat->Prop)(ρ:Pl):AV->Value->Prop
 |lf (x:Lf) (v:Value) (h:RelL w (Fb L ρ) x v):RelV w L ρ (.lf x) v
 |agg (cs:List AV) (vs:List Value) (hl:cs.length=vs.length) (h:∀(i:Nat)(x:AV)(v:Value),cs[i]?=some x->vs[i]?=some v->RelV w L ρ x v):RelV w L ρ (.agg cs) (.agg vs.toArray)
 |tup (cs:List AV) (vs:List Value) (hl:cs.length=vs.length) (h:∀(i:Nat)(x:AV)(v:Value),cs[i]?=some x->vs[i]?=some v->RelV w L ρ x v):RelV w L ρ (.tup cs) (.tuple vs.toArray)
 |rop (cs:List Lf) (ad:Addr) (V:Nat->Value) (hs:ad.spot=none)
  (h1:∀(j:Nat)(x:Lf),cs[j]?=some x->¬Fb L ρ ad.block/\w.cell? ⟨ad.block,ad.off+j,none⟩=some (V j))
  (h2:∀(j:Nat)(x:Lf),cs[j]?=some x->RelL w (Fb L ρ) x (V j)):RelV w L ρ (.rop cs) (.pointer (some ad))
 |ptr (b off:Nat) (v:Value) (hb:ρ b≠none) (h1:v.oneCell'=true) (h:∀k o,ρ b=some (some (k,o))->v=.pointer (some ⟨k,o+off,none⟩)):RelV w L ρ (.ptr b off) v
 |own (b off len st:Nat) (v:Value) (hb:ρ b≠none) (h1:v.oneCell'=true)
  (h:∀k o,ρ b=some (some (k,o))->∃cap e n,v=.slice (some ⟨k,o+off,none⟩) len cap/\len<=cap/\w.shape? k=some (e,n)/\o+off+cap*st<=n):RelV w L ρ (.own b off len st) v
 |mp (b:Nat) (v:Value) (hb:ρ b≠none) (h1:v.oneCell'=true) (h:∀k o,ρ b=some (some (k,o))->v=.map (some k)):RelV w L ρ (.mp b) v
 |fn (f:Fn) (fs cs:List AV) (us vs:List Value) (hl:fs.length=us.length) (hm:cs.length=vs.length) (h:∀(i:Nat)(x:AV)(v:Value),fs[i]?=some x->us[i]?=some v->RelV w L ρ x v)
  (k:∀(i:Nat)(x:AV)(v:Value),cs[i]?=some x->vs[i]?=some v->RelV w L ρ x v):RelV w L ρ (.fn f fs cs) (.func f us.toArray vs.toArray)
 |err (t:TypeId) (u:Value):RelV w L ρ .err (.iface t u)

structure Later(L:Nat->Prop)(w:World)(ρ:Pl)(w':World)(ρ':Pl):Prop where
 ext:∀b,ρ b≠none->ρ' b=ρ b\/ρ' b=some none
 cell:∀k o u,¬Fb L ρ k->w.cell? ⟨k,o,none⟩=some u->w'.cell? ⟨k,o,none⟩=some u/\¬Fb L ρ' k
 shape:∀k x,w.shape? k=some x->w'.shape? k=some x
theorem Later.refl(L:Nat->Prop)(w:World)(ρ:Pl):Later L w ρ w ρ:=⟨fun _ _=>.inl rfl,fun _ _ _ h hc=>⟨hc,h⟩,fun _ _ h=>h⟩
theorem Later.trans{L:Nat->Prop}{w1 w2 w3:World}{ρ1 ρ2 ρ3:Pl}(h:Later L w1 ρ1 w2 ρ2)(k:Later L w2 ρ2 w3 ρ3):Later L w1 ρ1 w3 ρ3 where
 ext b hb:=by
  rcases h.ext b hb with e|e
  ·rcases k.ext b (by rw[e];exact hb)with e'|e'
   ·exact .inl (e'.trans e)
   ·exact .inr e'
  ·rcases k.ext b (by rw[e];simp)with e'|e'
   ·exact .inr (e'.trans e)
   ·exact .inr e'
 cell x o u h1 h2:=by
  obtain⟨a,b⟩:=h.cell x o u h1 h2
  exact k.cell x o u b a
 shape x y h1:=k.shape x y (h.shape x y h1)

theorem RelL.later{F F':Nat->Prop}{w w':World}(hl:∀k o u,¬F k->w.cell? ⟨k,o,none⟩=some u->w'.cell? ⟨k,o,none⟩=some u/\¬F' k){x:Lf}{v:Value}(h:RelL w F x v):RelL w' F' x v:=by
 induction h with
 |val v=>exact .val v
 |slnil=>exact .slnil
 |sl rows ad cap V hs hc h1 h2 ih=>
  refine .sl rows ad cap V hs hc (fun i row j x hi hj=>?_) (fun i row j x hi hj=>ih i row j x hi hj)
  obtain⟨a,b⟩:=h1 i row j x hi hj
  exact(hl _ _ _ a b).symm
 |fn f caps ads V hlen hs h1 h2 ih=>
  refine .fn f caps ads V hlen hs (fun i cs ad j x hi ha hj=>?_) (fun i cs j x hi hj=>ih i cs j x hi hj)
  obtain⟨a,b⟩:=h1 i cs ad j x hi ha hj
  exact(hl _ _ _ a b).symm
theorem RelV.later{L:Nat->Prop}{w w':World}{ρ ρ':Pl}(hl:Later L w ρ w' ρ'){x:AV}{v:Value}(h:RelV w L ρ x v):RelV w' L ρ' x v:=by
 induction h with
 |lf x v h=>exact .lf x v (h.later hl.cell)
 |agg cs vs hl' h ih=>exact .agg cs vs hl' fun i x v a b=>ih i x v a b
 |tup cs vs hl' h ih=>exact .tup cs vs hl' fun i x v a b=>ih i x v a b
 |rop cs ad V hs h1 h2=>
  refine .rop cs ad V hs (fun j x hj=>?_) (fun j x hj=>(h2 j x hj).later hl.cell)
  obtain⟨a,b⟩:=h1 j x hj
  exact(hl.cell _ _ _ a b).symm
 |ptr b off v hb h1 h=>
  refine .ptr b off v ?_ h1 fun k o hk=>?_
  ·rcases hl.ext b hb with e|e<;>simp[e,hb]
  ·rcases hl.ext b hb with e|e
   ·exact h k o (e▸hk)
   ·rw[e]at hk;cases hk
 |own b off len st v hb h1 h=>
  refine .own b off len st v ?_ h1 fun k o hk=>?_
  ·rcases hl.ext b hb with e|e<;>simp[e,hb]
  ·rcases hl.ext b hb with e|e
   ·obtain⟨cap,el,n,h1,h2,h3,h4⟩:=h k o (e▸hk)
    exact⟨cap,el,n,h1,h2,hl.shape _ _ h3,h4⟩
   ·rw[e]at hk;cases hk
 |mp b v hb h1 h=>
  refine .mp b v ?_ h1 fun k o hk=>?_
  ·rcases hl.ext b hb with e|e<;>simp[e,hb]
  ·rcases hl.ext b hb with e|e
   ·exact h k o (e▸hk)
   ·rw[e]at hk;cases hk
 |fn f fs cs us vs a b h k ih1 ih2=>exact .fn f fs cs us vs a b (fun i x v a b=>ih1 i x v a b) (fun i x v a b=>ih2 i x v a b)
 |err t u=>exact .err t u

def AV.tree:AV->Bool
 | .lf _=>true
 | .rop _=>true
 | .agg cs=>cs.all fun| .lf _=>true|_=>false
 | .tup cs=>cs.all fun| .lf _=>true|_=>false
 | .fn _ fs cs=>(fs.all fun| .lf _=>true| .rop _=>true|_=>false)&&(cs.all fun| .lf _=>true| .rop _=>true|_=>false)
 |_=>false
theorem RelL.iff{w:World}{F F':Nat->Prop}(h:∀k,F k↔F' k){x:Lf}{v:Value}(hx:RelL w F x v):RelL w F' x v:=
 hx.later fun k _ _ hk hc=>⟨hc,fun hf=>hk ((h k).2 hf)⟩
theorem RelV.bare{w:World}{L:Nat->Prop}{ρ:Pl}{x:AV}{v:Value}(h:RelV w L ρ x v)(ht:x.tree=true):RelV w (Fb L ρ) Ba x v:=by
 have key:∀{x:Lf}{v:Value},RelL w (Fb L ρ) x v->RelL w (Fb (Fb L ρ) Ba) x v:=fun h=>h.iff fun k=>(F2 _ k).symm
 have cell:∀{x:AV}{v:Value},RelV w L ρ x v->(match x with| .lf _=>true| .rop _=>true|_=>false)=true->RelV w (Fb L ρ) Ba x v:=fun h ht=>by
  cases h<;>simp only[]at ht<;>try cases ht
  case lf h=>exact .lf _ _ (key h)
  case rop V hs h1 h2=>exact .rop _ _ V hs (fun j x hj=>⟨fun hf=>(h1 j x hj).1 ((F2 _ _).1 hf),(h1 j x hj).2⟩) (fun j x hj=>key (h2 j x hj))
 have cell':∀{x:AV}{v:Value},RelV w L ρ x v->(match x with| .lf _=>true|_=>false)=true->RelV w (Fb L ρ) Ba x v:=fun h ht=>by
  cases h<;>simp only[]at ht<;>try cases ht
  case lf h=>exact .lf _ _ (key h)
 cases h<;>simp only[AV.tree]at ht<;>try cases ht
 case lf h=>exact .lf _ _ (key h)
 case agg vs hl h=>exact .agg _ vs hl fun i x v a b=>cell' (h i x v a b) (a0l.1 ht x (a0a a))
 case tup vs hl h=>exact .tup _ vs hl fun i x v a b=>cell' (h i x v a b) (a0l.1 ht x (a0a a))
 case rop V hs h1 h2=>exact .rop _ _ V hs (fun j x hj=>⟨fun hf=>(h1 j x hj).1 ((F2 _ _).1 hf),(h1 j x hj).2⟩) (fun j x hj=>key (h2 j x hj))
 case fn us vs hl hm h k=>
  rw[a0w]at ht
  exact .fn _ _ _ us vs hl hm (fun i x v a b=>cell (h i x v a b) (a0l.1 ht.1 x (a0a a))) (fun i x v a b=>cell (k i x v a b) (a0l.1 ht.2 x (a0a a)))
theorem RelV.dress{w:World}{L:Nat->Prop}{ρ:Pl}{x:AV}{v:Value}(h:RelV w (Fb L ρ) Ba x v):RelV w L ρ x v:=by
 have key:∀{x:Lf}{v:Value},RelL w (Fb (Fb L ρ) Ba) x v->RelL w (Fb L ρ) x v:=fun h=>h.iff fun k=>F2 _ k
 induction h with
 |lf x v h=>exact .lf x v (key h)
 |agg cs vs hl h ih=>exact .agg cs vs hl ih
 |tup cs vs hl h ih=>exact .tup cs vs hl ih
 |rop cs ad V hs h1 h2=>exact .rop cs ad V hs (fun j x hj=>⟨fun hf=>(h1 j x hj).1 ((F2 _ _).2 hf),(h1 j x hj).2⟩) (fun j x hj=>key (h2 j x hj))
 |ptr b off v hb h1 h=>exact absurd rfl hb
 |own b off len st v hb h1 h=>exact absurd rfl hb
 |mp b v hb h1 h=>exact absurd rfl hb
 |fn f fs cs us vs a b h k ih1 ih2=>exact .fn f fs cs us vs a b ih1 ih2
 |err t u=>exact .err t u

inductive HB where
 |free
 |dead
 |live (cells:List AV)
 |map (es:List (Value×Value))
 |bld (T e:TypeId) (b2:Nat) (s:List Value)
 |hid
 |hot (k o:Nat) (cs:List Lf)
 |gho (cs:List AV) (vs:List Value)
 deriving Inhabited
abbrev AH:=List HB
def AH.at(H:AH)(b:Nat):HB:=H.getD b .free
def HB.isExt:HB->Bool
 | .bld _ _ _ _=>true
 | .hid=>true
 |_=>false
def HB.isHot:HB->Bool
 | .hot _ _ _=>true
 |_=>false
def CellsAt(w:World)(F:Nat->Prop)(k o:Nat)(cs:List Lf):Prop:=
 ∃c e lo hi,w.heap[k]?=some (.cells c e (lo,hi))/\hi<=lo/\o+cs.length<=c.size/\∀(j:Nat)(x:Lf),cs[j]?=some x->∃v,c[o+j]?=some v/\RelL w F x v
def HotAt(w:World)(L:Nat->Prop)(ρ:Pl)(b k o:Nat)(cs:List Lf):Prop:=ρ b=some (some (k,o))/\¬L k/\CellsAt w (Fb L ρ) k o cs
def Mv(F F':Nat->Prop)(w w':World):Prop:=∀k o u,¬F k->w.cell? ⟨k,o,none⟩=some u->w'.cell? ⟨k,o,none⟩=some u/\¬F' k
def BldAt(w:World)(L:Nat->Prop)(ρ:Pl)(T e:TypeId)(b b2:Nat)(s:List Value):Prop:=
 ∃k p v,ρ b=some (some (k,0))/\¬L k/\w.heap[k]?=some (.cells (#[p,v]++Aj4 T) T (0,0))/\(p=.pointer none\/p=.pointer (some ⟨k,0,none⟩))/\w.ownsRowF 0 e 1 v s.length s/\v.ownBlock≠some k/\
  ∀g,v.ownBlock=some g->ρ b2=some (some (g,0))/\¬L g
def Afl(w:World)(L:Nat->Prop)(ρ:Pl)(b:Nat)(cs:List AV)(vs:List Value):Prop:=
 (∀k o,ρ b≠some (some (k,o)))/\cs.length=vs.length/\∀(i:Nat)(x:AV)(v:Value),cs[i]?=some x->vs[i]?=some v->RelV w L ρ x v
structure ExtOk(w:World)(L:Nat->Prop)(ρ:Pl)(H:AH):Prop where
 bld:∀b T e b2 s,H.at b=.bld T e b2 s->H.at b2=.hid/\BldAt w L ρ T e b b2 s
 hid:∀b,H.at b=.hid->ρ b≠none/\∀k o,ρ b=some (some (k,o))->k<w.heap.size
 one:∀b b' T e T' e' b2 s s',H.at b=.bld T e b2 s->H.at b'=.bld T' e' b2 s'->b=b'
 hot:∀b k o cs,H.at b=.hot k o cs->HotAt w L ρ b k o cs
 gho:∀b cs vs,H.at b=.gho cs vs->Afl w L ρ b cs vs

structure RelH(w:World)(L:Nat->Prop)(ρ:Pl)(H:AH):Prop where
 free:∀b,H.at b=.free->ρ b=none
 dead:∀b,H.at b=.dead->ρ b=some none
 live:∀b cells,H.at b=.live cells->∃k o c e lo hi,ρ b=some (some (k,o))/\w.heap[k]?=some (.cells c e (lo,hi))/\hi<=lo/\o+cells.length<=c.size/\¬L k/\∀(j:Nat)(x:AV),cells[j]?=some x->∃v,c[o+j]?=some v/\RelV w L ρ x v
 map:∀b es,H.at b=.map es->∃k entries clock,ρ b=some (some (k,0))/\w.heap[k]?=some (.map entries clock)/\¬L k/\entries.toList.map (fun e=>(e.key,e.val))=es
 dist:∀b b' k o o',ρ b=some (some (k,o))->ρ b'=some (some (k,o'))->b=b'
 ext:ExtOk w L ρ H

structure Fr(O:Nat->Prop)(w w':World):Prop where
 os:w'.os=w.os
 tape:w'.tape=w.tape
 output:w'.output=w.output
 size:w.heap.size<=w'.heap.size
 block:∀k,k<w.heap.size->¬O k->w'.heap[k]?=w.heap[k]?
 shape:∀k x,w.shape? k=some x->w'.shape? k=some x
theorem Fr.refl(O:Nat->Prop)(w:World):Fr O w w:=⟨rfl,rfl,rfl,a0n _,fun _ _ _=>rfl,fun _ _ h=>h⟩
theorem Fr.trans{O:Nat->Prop}{a b c:World}(h:Fr O a b)(k:Fr (fun i=>O i\/a.heap.size<=i) b c):Fr O a c:=
 ⟨k.os.trans h.os,k.tape.trans h.tape,k.output.trans h.output,a2d h.size k.size,fun i hi ho=>(k.block i (a5g hi h.size) (fun hh=>hh.elim ho (by omega))).trans (h.block i hi ho),fun i x hx=>k.shape i x (h.shape i x hx)⟩
theorem Fr.mono{O O':Nat->Prop}{a b:World}(h:Fr O a b)(hO:∀k,k<a.heap.size->O k->O' k):Fr O' a b:=
 ⟨h.os,h.tape,h.output,h.size,fun k hk hn=>h.block k hk fun ho=>hn (hO k hk ho),h.shape⟩
theorem Cn{w w':World}{k:Nat}(h:w'.heap[k]?=w.heap[k]?):w'.shape? k=w.shape? k:=by
 unfold World.shape?;rw[h]
theorem Ga{w:World}{k:Nat}{x}(h:w.shape? k=some x):k<w.heap.size:=by
 unfold World.shape? at h
 rcases a0y k w.heap.size with hk|hk
 ·exact hk
 ·rw[a5v hk]at h;cases h
theorem Ef{w:World}{k o:Nat}{u}(h:w.cell? ⟨k,o,none⟩=some u):k<w.heap.size:=by
 unfold World.cell? at h
 rcases a0y k w.heap.size with hk|hk
 ·exact hk
 ·simp only[]at h;rw[a5v hk]at h;cases h
theorem Fr.below{w w':World}(h:Fr (fun _=>False) w w'):Below w.heap.size w w':=⟨h.os,h.tape,h.output,h.size,fun k hk=>h.block k hk id⟩
theorem p1z{w w':World}(h:Below w.heap.size w w'):Fr (fun _=>False) w w':=
 ⟨h.os,h.tape,h.output,h.size,fun k hk _=>h.block k hk,fun k x hx=>by rw[Cn (h.block k (Ga hx))];exact hx⟩

abbrev Tm:=List (Nat×AV)
def Tm.get:Tm->Nat->Option AV
 |[],_=>none
 |(k,v)::r,t=>match Nat.beq k t with|true=>some v|false=>Tm.get r t
structure St where
 tm:Tm
 H:AH
structure Env where
 N:Nat
 L:Nat->Prop
 O:Nat->Prop
 w0:World
 good:∀w,Fr O w0 w->Glob w
structure RelSt(E:Env)(st:St)(a:Act)(w:World)(ρ:Pl):Prop where
 size:a.tmps.size=E.N
 defers:a.defers=[]
 tm:∀t x,st.tm.get t=some x->t<E.N/\RelV w E.L ρ x (a.tmps.getD t undef)
 H:RelH w E.L ρ st.H
 fr:Fr E.O E.w0 w
 mine:∀b k o,ρ b=some (some (k,o))->(E.O k/\(st.H.at b).isExt=false)\/E.w0.heap.size<=k
 lim:∀k,E.L k->k<E.w0.heap.size

theorem Gw{a b:Nat}(h:a≠b):Nat.beq a b=false:=by
 cases e:Nat.beq a b with
 |true=>exact absurd (a2b e) h
 |false=>rfl
theorem p0w(k:Nat)(v:AV)(r:Tm)(t:Nat):Tm.get ((k,v)::r) t=if k=t then some v else Tm.get r t:=by
 rw[Tm.get]
 by_cases h:k=t
 ·subst h;simp
 ·rw[Gw h,if_neg h]
theorem Adf{a:Act}{d:Nat}{v:Value}(hd:d<a.tmps.size)(t:Nat):(a.put (some d) v).tmps.getD t undef=if d=t then v else a.tmps.getD t undef:=by
 simp only[Act.put,a0r,a3l]
 by_cases h:d=t
 ·subst h;simp[hd]
 ·simp[h]
theorem RelSt.put{E:Env}{st:St}{a:Act}{w:World}{ρ:Pl}(h:RelSt E st a w ρ){d:Nat}(hd:d<E.N){x:AV}{v:Value}(hx:RelV w E.L ρ x v):RelSt E {st with tm:=(d,x)::st.tm} (a.put (some d) v) w ρ where
 size:=by simp[Act.put,h.size]
 defers:=h.defers
 tm t y hy:=by
  rw[p0w]at hy
  rw[Adf (by rw[h.size];exact hd)]
  by_cases e:d=t
  ·rw[if_pos e]at hy⊢
   injection hy with hy
   subst hy e
   exact⟨hd,hx⟩
  ·rw[if_neg e]at hy⊢
   exact h.tm t y hy
 H:=h.H
 fr:=h.fr
 mine:=h.mine
 lim:=h.lim
theorem RelSt.weaken{E:Env}{st:St}{a:Act}{w:World}{ρ:Pl}(h:RelSt E st a w ρ)(tm:Tm)(ht:∀t x,tm.get t=some x->st.tm.get t=some x):RelSt E {st with tm} a w ρ:=
 ⟨h.size,h.defers,fun t x hx=>h.tm t x (ht t x hx),h.H,h.fr,h.mine,h.lim⟩
def AH.put:AH->Nat->HB->AH
 |[],0,x=>[x]
 |[],b+1,x=>.free::AH.put [] b x
 |_::r,0,x=>x::r
 |y::r,b+1,x=>y::AH.put r b x
theorem p0k(y:HB)(r:AH)(b:Nat):AH.at (y::r) (b+1)=AH.at r b:=by simp[AH.at]
theorem p0e:∀(H:AH)(b:Nat)(x:HB)(b':Nat),(H.put b x).at b'=if b'=b then x else H.at b'
 |[],0,x,0=>by simp[AH.put,AH.at]
 |[],0,x,b'+1=>by simp[AH.put,AH.at]
 |[],b+1,x,0=>by simp[AH.put,AH.at]
 |[],b+1,x,b'+1=>by
  rw[AH.put,p0k,p0e [] b x b']
  by_cases h:b'=b
  ·rw[if_pos h,if_pos (by omega)]
  ·rw[if_neg h,if_neg (by omega)];simp[AH.at]
 |y::r,0,x,0=>by simp[AH.put,AH.at]
 |y::r,0,x,b'+1=>by simp[AH.put,AH.at]
 |y::r,b+1,x,0=>by simp[AH.put,AH.at]
 |y::r,b+1,x,b'+1=>by
  rw[AH.put,p0k,p0e r b x b',p0k]
  by_cases h:b'=b
  ·rw[if_pos h,if_pos (by omega)]
  ·rw[if_neg h,if_neg (by omega)]

theorem Cl{w:World}{k:Nat}{o:Obj}(h:w.heap[k]?=some o):k<w.heap.size:=by
 rcases a0y k w.heap.size with hk|hk
 ·exact hk
 ·rw[a5v hk]at h;cases h
theorem RelH.lt{w:World}{L:Nat->Prop}{ρ:Pl}{H:AH}(h:RelH w L ρ H){b k o:Nat}(hb:ρ b=some (some (k,o))):k<w.heap.size:=by
 cases e:H.at b with
 |free=>rw[h.free b e]at hb;cases hb
 |dead=>rw[h.dead b e]at hb;cases hb
 |live cells=>
  obtain⟨k',o',c,e,lo,hi,h1,h2,_⟩:=h.live b cells e
  rw[h1]at hb
  injection hb with hb
  injection hb with hb
  injection hb with hb _
  subst hb
  exact Cl h2
 |map es=>
  obtain⟨k',entries,clock,h1,h2,_⟩:=h.map b es e
  rw[h1]at hb
  injection hb with hb
  injection hb with hb
  injection hb with hb _
  subst hb
  exact Cl h2
 |bld T e' b2 s=>
  obtain⟨_,k',p,v,h1,_,h2,_⟩:=h.ext.bld b T e' b2 s e
  rw[h1]at hb
  injection hb with hb
  injection hb with hb
  injection hb with hb _
  subst hb
  exact Cl h2
 |hid=>exact(h.ext.hid b e).2 k o hb
 |gho cs vs=>exact absurd hb ((h.ext.gho b cs vs e).1 k o)
 |hot k' o' cs=>
  obtain⟨h1,_,c,e',lo,hi,h2,_⟩:=h.ext.hot b k' o' cs e
  rw[h1]at hb
  injection hb with hb
  injection hb with hb
  injection hb with hb _
  subst hb
  exact Cl h2
theorem CellsAt.move{w w':World}{F F':Nat->Prop}{k o:Nat}{cs:List Lf}(h:CellsAt w F k o cs)(hm:Mv F F' w w')(hb:w'.heap[k]?=w.heap[k]?):CellsAt w' F' k o cs:=by
 obtain⟨c,e,lo,hi,g1,g2,g3,g4⟩:=h
 refine⟨c,e,lo,hi,by rw[hb];exact g1,g2,g3,fun j x hj=>?_⟩
 obtain⟨v,g5,g6⟩:=g4 j x hj
 exact⟨v,g5,g6.later hm⟩
theorem HotAt.move{w w':World}{L:Nat->Prop}{ρ ρ':Pl}{b k o:Nat}{cs:List Lf}(h:HotAt w L ρ b k o cs)(h1:ρ' b=ρ b)(hm:Mv (Fb L ρ) (Fb L ρ') w w')(hb:∀k o,ρ b=some (some (k,o))->w'.heap[k]?=w.heap[k]?):HotAt w' L ρ' b k o cs:=
 ⟨h1.trans h.1,h.2.1,h.2.2.move hm (hb k o h.1)⟩
theorem BldAt.move{w w':World}{L:Nat->Prop}{ρ ρ':Pl}{T e:TypeId}{b b2:Nat}{s:List Value}(h:BldAt w L ρ T e b b2 s)(h1:ρ' b=ρ b)(h2:ρ' b2=ρ b2)(hb:∀b' k o,b'=b\/b'=b2->ρ b'=some (some (k,o))->w'.heap[k]?=w.heap[k]?):BldAt w' L ρ' T e b b2 s:=by
 obtain⟨k,p,v,g1,g2,g3,g4,g5,g6,g7⟩:=h
 refine⟨k,p,v,h1.trans g1,g2,by rw[hb b k 0 (.inl rfl) g1];exact g3,g4,⟨g5.1,?_⟩,g6,fun g hg=>by rw[h2];exact g7 g hg⟩
 rcases g5.2 with h|⟨g,cap,cur,fz,e1,e2,e3,e4⟩
 ·exact .inl h
 ·refine .inr ⟨g,cap,cur,fz,e1,e2,?_,e4⟩
  rw[hb b2 g 0 (.inr rfl) (g7 g (by rw[e1];rfl)).1]
  exact e3
theorem ExtOk.nil(w:World)(L:Nat->Prop)(ρ:Pl):ExtOk w L ρ []:=⟨fun b T e b2 s h=>by simp[AH.at]at h,fun b h=>by simp[AH.at]at h,fun b b' T e T' e' b2 s s' h=>by simp[AH.at]at h,(fun b k o cs h=>by simp[AH.at]at h),fun b cs vs h=>by simp[AH.at]at h⟩
theorem ExtOk.congr{w:World}{L:Nat->Prop}{ρ:Pl}{H H':AH}(h:ExtOk w L ρ H)(he:∀b,H'.at b=H.at b):ExtOk w L ρ H':=
 ⟨fun b T e b2 s hb=>by rw[he b2];exact h.bld b T e b2 s (he b▸hb),fun b hb=>h.hid b (he b▸hb),fun b b' T e T' e' b2 s s' h1 h2=>h.one b b' T e T' e' b2 s s' (he b▸h1) (he b'▸h2),fun b k o cs hb=>h.hot b k o cs (he b▸hb),fun b cs vs hb=>h.gho b cs vs (he b▸hb)⟩
theorem ExtOk.same{w w':World}{L:Nat->Prop}{ρ:Pl}{H:AH}(h:ExtOk w L ρ H)(hm:Mv (Fb L ρ) (Fb L ρ) w w')(hs:w.heap.size<=w'.heap.size)(hb:∀b k o,ρ b=some (some (k,o))->w'.heap[k]?=w.heap[k]?)(hgo:∀x v,RelV w L ρ x v->RelV w' L ρ x v):ExtOk w' L ρ H:=
 ⟨fun b T e b2 s he=>⟨(h.bld b T e b2 s he).1,(h.bld b T e b2 s he).2.move rfl rfl fun b' k o _ hk=>hb b' k o hk⟩,fun b he=>⟨(h.hid b he).1,fun k o hk=>a5g ((h.hid b he).2 k o hk) hs⟩,h.one,fun b k o cs he=>(h.hot b k o cs he).move rfl hm (fun k o hk=>hb b k o hk),fun b cs vs he=>⟨(h.gho b cs vs he).1,(h.gho b cs vs he).2.1,fun i x v hx hv=>hgo x v ((h.gho b cs vs he).2.2 i x v hx hv)⟩⟩
theorem ExtOk.put{w w':World}{L:Nat->Prop}{ρ ρ':Pl}{H:AH}{b0:Nat}{x:HB}(h:ExtOk w L ρ H)(hm:Mv (Fb L ρ) (Fb L ρ') w w')(hn:(H.at b0).isExt=false)(hx:x.isExt=false)(hρ:∀b,b≠b0->ρ' b=ρ b)(hs:w.heap.size<=w'.heap.size)(hgo:∀b cs vs,b≠b0->H.at b=.gho cs vs->∀y∈cs,∀v,RelV w L ρ y v->RelV w' L ρ' y v)(hb:∀b k o,b≠b0->ρ b=some (some (k,o))->w'.heap[k]?=w.heap[k]?)(hh:∀k o cs,x=.hot k o cs->HotAt w' L ρ' b0 k o cs:=by intro _ _ _ h;cases h)(hh2:∀cs vs,x=.gho cs vs->Afl w' L ρ' b0 cs vs:=by intro _ _ h;cases h):ExtOk w' L ρ' (H.put b0 x):=by
 have hat:∀{b T e b2 s},(H.put b0 x).at b=.bld T e b2 s->H.at b=.bld T e b2 s:=fun {b T e b2 s} he=>by
  rw[p0e]at he
  split at he
  ·rw[he]at hx;cases hx
  ·exact he
 refine⟨fun b T e b2 s he=>?_,fun b he=>?_,fun b b' T e T' e' b2 s s' e1 e2=>h.one b b' T e T' e' b2 s s' (hat e1) (hat e2),fun b k o cs he=>?_,fun b cs vs he=>?_⟩
 ·have h1:b≠b0:=by
   rintro rfl
   rw[p0e,if_pos rfl]at he
   rw[he]at hx
   cases hx
  rw[p0e,if_neg h1]at he
  obtain⟨g1,g2⟩:=h.bld b T e b2 s he
  have h2:b2≠b0:=by
   rintro rfl
   rw[g1]at hn
   cases hn
  refine⟨by rw[p0e,if_neg h2];exact g1,g2.move (hρ b h1) (hρ b2 h2) fun b' k o hbb hk=>hb b' k o ?_ hk⟩
  rcases hbb with rfl|rfl
  ·exact h1
  ·exact h2
 ·have h1:b≠b0:=by
   rintro rfl
   rw[p0e,if_pos rfl]at he
   rw[he]at hx
   cases hx
  rw[p0e,if_neg h1]at he
  rw[hρ b h1]
  exact⟨(h.hid b he).1,fun k o hk=>a5g ((h.hid b he).2 k o hk) hs⟩
 ·rw[p0e]at he
  by_cases h1:b=b0
  ·rw[if_pos h1]at he
   subst h1
   exact hh k o cs he
  ·rw[if_neg h1]at he
   exact(h.hot b k o cs he).move (hρ b h1) hm fun k o hk=>hb b k o h1 hk
 ·rw[p0e]at he
  by_cases h1:b=b0
  ·rw[if_pos h1]at he
   subst h1
   exact hh2 cs vs he
  ·rw[if_neg h1]at he
   obtain⟨g1,g2,g3⟩:=h.gho b cs vs he
   exact⟨by rw[hρ b h1];exact g1,g2,fun i y v hy hv=>hgo b cs vs h1 he y (a0a hy) v (g3 i y v hy hv)⟩
theorem Ap(w:World)(o:Obj){k:Nat}(h:k<w.heap.size):(w.alloc o).heap[k]?=w.heap[k]?:=Below.heap_alloc w o k h
theorem Bz(w:World)(o:Obj):(w.alloc o).heap[w.heap.size]?=some o:=by
 show(w.heap.push o)[w.heap.size]?=_
 simp
def Pl.upd(ρ:Pl)(b:Nat)(x:Option (Nat×Nat)):Pl:=fun b'=>if b'=b then some x else ρ b'

theorem RelSt.move{E:Env}{st:St}{a:Act}{w:World}{ρ:Pl}(h:RelSt E st a w ρ){w':World}{ρ':Pl}{H':AH}(hl:Later E.L w ρ w' ρ')(hH:RelH w' E.L ρ' H')
  (hf:Fr (fun k=>E.O k\/E.w0.heap.size<=k) w w') (hm:∀b k o,ρ' b=some (some (k,o))->(E.O k/\(H'.at b).isExt=false)\/E.w0.heap.size<=k):RelSt E {st with H:=H'} a w' ρ' where
 size:=h.size
 defers:=h.defers
 tm t x hx:=⟨(h.tm t x hx).1,(h.tm t x hx).2.later hl⟩
 H:=hH
 fr:=h.fr.trans hf
 mine:=hm
 lim:=h.lim

theorem RelH.same{w w':World}{L:Nat->Prop}{ρ:Pl}{H:AH}(h:RelH w L ρ H)(hl:Later L w ρ w' ρ)(hb:∀k,k<w.heap.size->w'.heap[k]?=w.heap[k]?):RelH w' L ρ H where
 free:=h.free
 dead:=h.dead
 live b cells hc:=by
  obtain⟨k,o,c,e,lo,hi,h1,h2,h3,h4,h5,h6⟩:=h.live b cells hc
  refine⟨k,o,c,e,lo,hi,h1,by rw[hb k (Cl h2)];exact h2,h3,h4,h5,fun j x hj=>?_⟩
  obtain⟨v,g1,g2⟩:=h6 j x hj
  exact⟨v,g1,g2.later hl⟩
 map b es hc:=by
  obtain⟨k,entries,clock,h1,h2,h3,h4⟩:=h.map b es hc
  exact⟨k,entries,clock,h1,by rw[hb k (Cl h2)];exact h2,h3,h4⟩
 dist:=h.dist
 ext:=h.ext.same hl.cell (by
  rcases a0y w'.heap.size w.heap.size with hlt|hge
  ·have:=hb _ hlt
   rw[a5v (a0n _),a2e hlt]at this
   cases this
  ·exact hge) (fun b k o hk=>hb k (h.lt hk)) fun x v h=>h.later hl
theorem RelSt.glob{E:Env}{st:St}{a:Act}{w:World}{ρ:Pl}(h:RelSt E st a w ρ):Glob w:=E.good w h.fr
theorem RelSt.mineO{E:Env}{st:St}{a:Act}{w:World}{ρ:Pl}(h:RelSt E st a w ρ){b k o:Nat}(hk:ρ b=some (some (k,o))):E.O k\/E.w0.heap.size<=k:=(h.mine b k o hk).imp_left And.left
theorem RelSt.minePut{E:Env}{st:St}{a:Act}{w:World}{ρ:Pl}(h:RelSt E st a w ρ)(b0:Nat){x:HB}(hx:x.isExt=false:=by rfl){b k o:Nat}(hk:ρ b=some (some (k,o))):(E.O k/\((st.H.put b0 x).at b).isExt=false)\/E.w0.heap.size<=k:=by
 rcases h.mine b k o hk with⟨h1,h2⟩|h1
 ·refine .inl ⟨h1,?_⟩
  rw[p0e]
  split
  ·exact hx
  ·exact h2
 ·exact .inr h1
theorem Gl{L:Nat->Prop}{w w':World}{ρ:Pl}(hb:Below w.heap.size w w'):Later L w ρ w' ρ where
 ext _ _:=.inl rfl
 cell k o u h1 h2:=⟨by rw[hb.cell (p:=⟨k,o,none⟩) (Ef h2)];exact h2,h1⟩
 shape k x hx:=by rw[Cn (hb.block k (Ga hx))];exact hx
theorem RelSt.below{E:Env}{st:St}{a:Act}{w:World}{ρ:Pl}(h:RelSt E st a w ρ){w':World}(hb:Below w.heap.size w w'):RelSt E st a w' ρ:=
 h.move (Gl hb) (h.H.same (Gl hb) hb.block) ((p1z hb).mono fun _ _ hk=>hk.elim) h.mine

theorem RelSt.alloc{E:Env}{st:St}{a:Act}{w:World}{ρ:Pl}(h:RelSt E st a w ρ){b:Nat}(hb:st.H.at b=.free)(cells:List AV)(vs:Array Value)(e:TypeId)
  (hl:cells.length<=vs.size) (hv:∀(j:Nat)(x:AV),cells[j]?=some x->∃v,vs[j]?=some v/\RelV w E.L ρ x v):
  RelSt E {st with H:=st.H.put b (.live cells)} a (w.alloc (.cells vs e)) (ρ.upd b (some (w.heap.size,0)))/\RelV (w.alloc (.cells vs e)) E.L (ρ.upd b (some (w.heap.size,0))) (.ptr b 0) (.pointer (some ⟨w.heap.size,0,none⟩)):=by
 have hρ:ρ b=none:=h.H.free b hb
 have hlim:¬E.L w.heap.size:=fun hL=>by have:=h.lim _ hL;have:=h.fr.size;omega
 have hla:Later E.L w ρ (w.alloc (.cells vs e)) (ρ.upd b (some (w.heap.size,0))):=by
  refine⟨fun b' hb'=>.inl ?_,fun k o u h1 h2=>⟨?_,?_⟩,fun k x hx=>?_⟩
  ·unfold Pl.upd;rw[if_neg];rintro rfl;exact hb' hρ
  ·rw[a3d (w:=w) (Ap w _ (Ef h2))];exact h2
  ·rintro(hf|⟨b',o',hf⟩)
   ·exact h1 (.inl hf)
   ·unfold Pl.upd at hf
    by_cases e':b'=b
    ·rw[if_pos e']at hf
     injection hf with hf
     injection hf with hf
     injection hf with hf _
     have:=Ef h2
     omega
    ·rw[if_neg e']at hf;exact h1 (.inr ⟨b',o',hf⟩)
  ·rw[Cn (Ap w _ (Ga hx))];exact hx
 refine⟨h.move hla ?_ ?_ ?_,?_⟩
 ·refine⟨fun b' hb'=>?_,fun b' hb'=>?_,fun b' cs hb'=>?_,fun b' es hb'=>?_,fun b1 b2 k o o' h1 h2=>?_,h.H.ext.put hla.cell (by rw[hb];rfl) rfl (fun b' e'=>by unfold Pl.upd;rw[if_neg e']) (by simp) (fun _ _ _ _ _ _ _ _ h=>h.later hla) fun b' k o _ hk=>Ap w _ (h.H.lt hk)⟩
  ·rw[p0e]at hb'
   by_cases e':b'=b
   ·rw[if_pos e']at hb';cases hb'
   ·rw[if_neg e']at hb';unfold Pl.upd;rw[if_neg e'];exact h.H.free b' hb'
  ·rw[p0e]at hb'
   by_cases e':b'=b
   ·rw[if_pos e']at hb';cases hb'
   ·rw[if_neg e']at hb';unfold Pl.upd;rw[if_neg e'];exact h.H.dead b' hb'
  ·rw[p0e]at hb'
   by_cases e':b'=b
   ·rw[if_pos e']at hb'
    injection hb' with hb'
    subst hb' e'
    refine⟨w.heap.size,0,vs,e,0,0,by unfold Pl.upd;rw[if_pos rfl],Bz _ _,a0n _,by omega,hlim,fun j x hj=>?_⟩
    obtain⟨v,g1,g2⟩:=hv j x hj
    exact⟨v,by rw[a1n];exact g1,g2.later hla⟩
   ·rw[if_neg e']at hb'
    obtain⟨k,o,c,el,lo,hi,h1,h2,h3,h4,h5,h6⟩:=h.H.live b' cs hb'
    refine⟨k,o,c,el,lo,hi,by unfold Pl.upd;rw[if_neg e'];exact h1,by rw[Ap w _ (Cl h2)];exact h2,h3,h4,h5,fun j x hj=>?_⟩
    obtain⟨v,g1,g2⟩:=h6 j x hj
    exact⟨v,g1,g2.later hla⟩
  ·rw[p0e]at hb'
   by_cases e':b'=b
   ·rw[if_pos e']at hb';cases hb'
   ·rw[if_neg e']at hb'
    obtain⟨k,entries,clock,h1,h2,h3,h4⟩:=h.H.map b' es hb'
    exact⟨k,entries,clock,by unfold Pl.upd;rw[if_neg e'];exact h1,by rw[Ap w _ (Cl h2)];exact h2,h3,h4⟩
  ·unfold Pl.upd at h1 h2
   by_cases e1:b1=b<;>by_cases e2:b2=b
   ·rw[e1,e2]
   ·rw[if_pos e1]at h1
    rw[if_neg e2]at h2
    injection h1 with h1
    injection h1 with h1
    injection h1 with h1 _
    have:=h.H.lt h2
    omega
   ·rw[if_neg e1]at h1
    rw[if_pos e2]at h2
    injection h2 with h2
    injection h2 with h2
    injection h2 with h2 _
    have:=h.H.lt h1
    omega
   ·rw[if_neg e1]at h1
    rw[if_neg e2]at h2
    exact h.H.dist _ _ _ _ _ h1 h2
 ·exact(p1z ((Below.refl _ w).alloc (a0n _) _)).mono fun _ _ hk=>hk.elim
 ·intro b' k o hk
  unfold Pl.upd at hk
  by_cases e':b'=b
  ·rw[if_pos e']at hk
   injection hk with hk
   injection hk with hk
   injection hk with hk _
   have:=h.fr.size
   omega
  ·rw[if_neg e']at hk;exact h.minePut b rfl hk
 ·refine .ptr b 0 _ (by unfold Pl.upd;rw[if_pos rfl];simp) rfl fun k o hk=>?_
  unfold Pl.upd at hk
  rw[if_pos rfl]at hk
  injection hk with hk
  injection hk with hk
  injection hk with hk hk2
  subst hk hk2
  rfl

theorem heap_setCell(w:World)(k o:Nat)(v:Value)(c:Array Value)(e:TypeId)(fr:Nat×Nat)(h:w.heap[k]?=some (.cells c e fr)):(w.setCell ⟨k,o,none⟩ v).heap[k]?=some (.cells (c.setIfInBounds o v) e fr):=by
 simp[World.setCell,a8n,h]
theorem Gh(w:World)(a:Addr)(v:Value)(k:Nat):(w.setCell a v).shape? k=w.shape? k:=by
 unfold World.shape? World.setCell
 simp only[a8n]
 by_cases h:a.block=k
 ·subst h
  simp only[if_true]
  cases w.heap[a.block]? with
  |none=>rfl
  |some o=>cases o<;>simp<;>split<;>simp
 ·rw[if_neg h]
theorem RelSt.store{E:Env}{st:St}{a:Act}{w:World}{ρ:Pl}(h:RelSt E st a w ρ){b:Nat}{cells:List AV}(hb:st.H.at b=.live cells){off:Nat}(ho:off<cells.length){x:AV}{v:Value}(hx:RelV w E.L ρ x v){k o:Nat}(hk:ρ b=some (some (k,o))):
  RelSt E {st with H:=st.H.put b (.live (cells.set off x))} a (w.setCell ⟨k,o+off,none⟩ v) ρ:=by
 have hla:Later E.L w ρ (w.setCell ⟨k,o+off,none⟩ v) ρ:=by
  refine⟨fun _ _=>.inl rfl,fun k' o' u h1 h2=>⟨?_,h1⟩,fun k' x hx=>by rw[Gh];exact hx⟩
  rw[a3d (w:=w) (Below.heap_setCell w ⟨k,o+off,none⟩ v k' (fun e=>h1 (.inr ⟨b,o,e▸hk⟩)))];exact h2
 have hkk:∀{b' k' o':Nat},b'≠b->ρ b'=some (some (k',o'))->k'≠k:=fun {b' k' o'} hne h1 e=>hne (h.H.dist _ _ k' _ o h1 (e▸hk))
 refine h.move hla ?_ ⟨rfl,rfl,rfl,by simp[World.setCell],fun i _ hn=>Below.heap_setCell w _ v i (fun e=>hn (by rw[e];exact h.mineO hk)),fun i x hx=>by rw[Gh];exact hx⟩ fun b' k' o' hk'=>h.minePut b rfl hk'
 refine⟨fun b' hb'=>?_,fun b' hb'=>?_,fun b' cs hb'=>?_,fun b' es hb'=>?_,h.H.dist,h.H.ext.put hla.cell (by rw[hb];rfl) rfl (fun _ _=>rfl) (by simp[World.setCell]) (fun _ _ _ _ _ _ _ _ h=>h.later hla) fun b' k' o' hne hk'=>Below.heap_setCell w _ v k' (hkk hne hk')⟩
 ·rw[p0e]at hb'
  by_cases e':b'=b
  ·rw[if_pos e']at hb';cases hb'
  ·rw[if_neg e']at hb';exact h.H.free b' hb'
 ·rw[p0e]at hb'
  by_cases e':b'=b
  ·rw[if_pos e']at hb';cases hb'
  ·rw[if_neg e']at hb';exact h.H.dead b' hb'
 ·rw[p0e]at hb'
  by_cases e':b'=b
  ·rw[if_pos e']at hb'
   injection hb' with hb'
   subst hb' e'
   obtain⟨k',o',c,el,lo,hi,h1,h2,h3,h4,h5,h6⟩:=h.H.live b' cells hb
   rw[h1]at hk
   injection hk with hk
   injection hk with hk
   injection hk with hk hk2
   subst hk hk2
   refine⟨k',o',_,el,lo,hi,h1,heap_setCell w k' (o'+off) v c el _ h2,h3,by simpa using h4,h5,fun j y hj=>?_⟩
   rw[a9s]at hj
   by_cases e2:off=j
   ·subst e2
    rw[if_pos rfl,if_pos ho]at hj
    injection hj with hj
    subst hj
    exact⟨v,by rw[a3l];simp;omega,hx.later hla⟩
   ·rw[if_neg e2]at hj
    obtain⟨u,g1,g2⟩:=h6 j y hj
    exact⟨u,by rw[a3l,if_neg (by omega)];exact g1,g2.later hla⟩
  ·rw[if_neg e']at hb'
   obtain⟨k',o',c,el,lo,hi,h1,h2,h3,h4,h5,h6⟩:=h.H.live b' cs hb'
   refine⟨k',o',c,el,lo,hi,h1,by rw[Below.heap_setCell w _ v k' (hkk e' h1)];exact h2,h3,h4,h5,fun j x hj=>?_⟩
   obtain⟨u,g1,g2⟩:=h6 j x hj
   exact⟨u,g1,g2.later hla⟩
 ·rw[p0e]at hb'
  by_cases e':b'=b
  ·rw[if_pos e']at hb';cases hb'
  ·rw[if_neg e']at hb'
   obtain⟨k',entries,clock,h1,h2,h3,h4⟩:=h.H.map b' es hb'
   exact⟨k',entries,clock,h1,by rw[Below.heap_setCell w _ v k' (hkk e' h1)];exact h2,h3,h4⟩
theorem RelSt.store_later{E:Env}{st:St}{a:Act}{w:World}{ρ:Pl}(h:RelSt E st a w ρ){b:Nat}{cells:List AV}(hb:st.H.at b=.live cells){off:Nat}{v:Value}{k o:Nat}(hk:ρ b=some (some (k,o))):Later E.L w ρ (w.setCell ⟨k,o+off,none⟩ v) ρ:=by
 refine⟨fun _ _=>.inl rfl,fun k' o' u h1 h2=>⟨?_,h1⟩,fun k' x hx=>by rw[Gh];exact hx⟩
 rw[a3d (w:=w) (Below.heap_setCell w ⟨k,o+off,none⟩ v k' (fun e=>h1 (.inr ⟨b,o,e▸hk⟩)))];exact h2
theorem RelSt.sameH{E:Env}{tm:Tm}{H H':AH}{a:Act}{w:World}{ρ:Pl}(h:RelSt E ⟨tm,H⟩ a w ρ)(he:∀b,H'.at b=H.at b):RelSt E ⟨tm,H'⟩ a w ρ:=
 ⟨h.size,h.defers,h.tm,⟨fun b hb=>h.H.free b (he b▸hb),fun b hb=>h.H.dead b (he b▸hb),fun b cs hb=>h.H.live b cs (he b▸hb),fun b es hb=>h.H.map b es (he b▸hb),h.H.dist,h.H.ext.congr he⟩,h.fr,fun b k o hk=>by rw[he b];exact h.mine b k o hk,h.lim⟩
theorem RelSt.kill{E:Env}{st:St}{a:Act}{w:World}{ρ:Pl}(h:RelSt E st a w ρ){b:Nat}(hn:(st.H.at b).isExt=false):RelSt E {st with H:=st.H.put b .dead} a w (ρ.upd b none):=by
 have hla:Later E.L w ρ w (ρ.upd b none):=by
  refine⟨fun b' hb'=>?_,fun k o u h1 h2=>⟨h2,?_⟩,fun _ _ hx=>hx⟩
  ·unfold Pl.upd
   by_cases e:b'=b
   ·rw[if_pos e];exact .inr rfl
   ·rw[if_neg e];exact .inl rfl
  ·rintro(hf|⟨b',o',hf⟩)
   ·exact h1 (.inl hf)
   ·unfold Pl.upd at hf
    by_cases e:b'=b
    ·rw[if_pos e]at hf;cases hf
    ·rw[if_neg e]at hf;exact h1 (.inr ⟨b',o',hf⟩)
 have hs:∀{b' k o},(ρ.upd b none) b'=some (some (k,o))->b'≠b/\ρ b'=some (some (k,o)):=fun {b' k o} hk=>by
  unfold Pl.upd at hk
  by_cases e:b'=b
  ·rw[if_pos e]at hk;cases hk
  ·rw[if_neg e]at hk;exact⟨e,hk⟩
 refine h.move hla ?_ (Fr.refl _ _) fun b' k o hk=>h.minePut b rfl (hs hk).2
 refine⟨fun b' hb'=>?_,fun b' hb'=>?_,fun b' cs hb'=>?_,fun b' es hb'=>?_,fun b1 b2 k o o' h1 h2=>h.H.dist _ _ _ _ _ (hs h1).2 (hs h2).2,h.H.ext.put hla.cell hn rfl (fun b' e'=>by unfold Pl.upd;rw[if_neg e']) (a0n _) (fun _ _ _ _ _ _ _ _ h=>h.later hla) fun _ _ _ _ _=>rfl⟩
 ·rw[p0e]at hb'
  by_cases e':b'=b
  ·rw[if_pos e']at hb';cases hb'
  ·rw[if_neg e']at hb';unfold Pl.upd;rw[if_neg e'];exact h.H.free b' hb'
 ·rw[p0e]at hb'
  by_cases e':b'=b
  ·unfold Pl.upd;rw[if_pos e']
  ·rw[if_neg e']at hb';unfold Pl.upd;rw[if_neg e'];exact h.H.dead b' hb'
 ·rw[p0e]at hb'
  by_cases e':b'=b
  ·rw[if_pos e']at hb';cases hb'
  ·rw[if_neg e']at hb'
   obtain⟨k,o,c,el,lo,hi,h1,h2,h3,h4,h5,h6⟩:=h.H.live b' cs hb'
   refine⟨k,o,c,el,lo,hi,by unfold Pl.upd;rw[if_neg e'];exact h1,h2,h3,h4,h5,fun j x hj=>?_⟩
   obtain⟨u,g1,g2⟩:=h6 j x hj
   exact⟨u,g1,g2.later hla⟩
 ·rw[p0e]at hb'
  by_cases e':b'=b
  ·rw[if_pos e']at hb';cases hb'
  ·rw[if_neg e']at hb'
   obtain⟨k,entries,clock,h1,h2,h3,h4⟩:=h.H.map b' es hb'
   exact⟨k,entries,clock,by unfold Pl.upd;rw[if_neg e'];exact h1,h2,h3,h4⟩
theorem RelSt.newMap{E:Env}{st:St}{a:Act}{w:World}{ρ:Pl}(h:RelSt E st a w ρ){b:Nat}(hb:st.H.at b=.free)(clock:Nat):
  RelSt E {st with H:=st.H.put b (.map [])} a (w.alloc (.map #[] clock)) (ρ.upd b (some (w.heap.size,0)))/\RelV (w.alloc (.map #[] clock)) E.L (ρ.upd b (some (w.heap.size,0))) (.mp b) (.map (some w.heap.size)):=by
 have hρ:ρ b=none:=h.H.free b hb
 have hlim:¬E.L w.heap.size:=fun hL=>by have:=h.lim _ hL;have:=h.fr.size;omega
 have hla:Later E.L w ρ (w.alloc (.map #[] clock)) (ρ.upd b (some (w.heap.size,0))):=by
  refine⟨fun b' hb'=>.inl ?_,fun k o u h1 h2=>⟨?_,?_⟩,fun k x hx=>?_⟩
  ·unfold Pl.upd;rw[if_neg];rintro rfl;exact hb' hρ
  ·rw[a3d (w:=w) (Ap w _ (Ef h2))];exact h2
  ·rintro(hf|⟨b',o',hf⟩)
   ·exact h1 (.inl hf)
   ·unfold Pl.upd at hf
    by_cases e':b'=b
    ·rw[if_pos e']at hf
     injection hf with hf
     injection hf with hf
     injection hf with hf _
     have:=Ef h2
     omega
    ·rw[if_neg e']at hf;exact h1 (.inr ⟨b',o',hf⟩)
  ·rw[Cn (Ap w _ (Ga hx))];exact hx
 refine⟨h.move hla ?_ ?_ ?_,?_⟩
 ·refine⟨fun b' hb'=>?_,fun b' hb'=>?_,fun b' cs hb'=>?_,fun b' es hb'=>?_,fun b1 b2 k o o' h1 h2=>?_,h.H.ext.put hla.cell (by rw[hb];rfl) rfl (fun b' e'=>by unfold Pl.upd;rw[if_neg e']) (by simp) (fun _ _ _ _ _ _ _ _ h=>h.later hla) fun b' k o _ hk=>Ap w _ (h.H.lt hk)⟩
  ·rw[p0e]at hb'
   by_cases e':b'=b
   ·rw[if_pos e']at hb';cases hb'
   ·rw[if_neg e']at hb';unfold Pl.upd;rw[if_neg e'];exact h.H.free b' hb'
  ·rw[p0e]at hb'
   by_cases e':b'=b
   ·rw[if_pos e']at hb';cases hb'
   ·rw[if_neg e']at hb';unfold Pl.upd;rw[if_neg e'];exact h.H.dead b' hb'
  ·rw[p0e]at hb'
   by_cases e':b'=b
   ·rw[if_pos e']at hb';cases hb'
   ·rw[if_neg e']at hb'
    obtain⟨k,o,c,el,lo,hi,h1,h2,h3,h4,h5,h6⟩:=h.H.live b' cs hb'
    refine⟨k,o,c,el,lo,hi,by unfold Pl.upd;rw[if_neg e'];exact h1,by rw[Ap w _ (Cl h2)];exact h2,h3,h4,h5,fun j x hj=>?_⟩
    obtain⟨v,g1,g2⟩:=h6 j x hj
    exact⟨v,g1,g2.later hla⟩
  ·rw[p0e]at hb'
   by_cases e':b'=b
   ·rw[if_pos e']at hb'
    injection hb' with hb'
    subst hb' e'
    exact⟨w.heap.size, #[],clock,by unfold Pl.upd;rw[if_pos rfl],Bz _ _,hlim,rfl⟩
   ·rw[if_neg e']at hb'
    obtain⟨k,entries,clock,h1,h2,h3,h4⟩:=h.H.map b' es hb'
    exact⟨k,entries,clock,by unfold Pl.upd;rw[if_neg e'];exact h1,by rw[Ap w _ (Cl h2)];exact h2,h3,h4⟩
  ·unfold Pl.upd at h1 h2
   by_cases e1:b1=b<;>by_cases e2:b2=b
   ·rw[e1,e2]
   ·rw[if_pos e1]at h1
    rw[if_neg e2]at h2
    injection h1 with h1
    injection h1 with h1
    injection h1 with h1 _
    have:=h.H.lt h2
    omega
   ·rw[if_neg e1]at h1
    rw[if_pos e2]at h2
    injection h2 with h2
    injection h2 with h2
    injection h2 with h2 _
    have:=h.H.lt h1
    omega
   ·rw[if_neg e1]at h1
    rw[if_neg e2]at h2
    exact h.H.dist _ _ _ _ _ h1 h2
 ·exact(p1z ((Below.refl _ w).alloc (a0n _) _)).mono fun _ _ hk=>hk.elim
 ·intro b' k o hk
  unfold Pl.upd at hk
  by_cases e':b'=b
  ·rw[if_pos e']at hk
   injection hk with hk
   injection hk with hk
   injection hk with hk _
   have:=h.fr.size
   omega
  ·rw[if_neg e']at hk;exact h.minePut b rfl hk
 ·refine .mp b _ (by unfold Pl.upd;rw[if_pos rfl];simp) rfl fun k o hk=>?_
  unfold Pl.upd at hk
  rw[if_pos rfl]at hk
  injection hk with hk
  injection hk with hk
  injection hk with hk hk2
  subst hk
  rfl
theorem Th{w:World}{k:Nat}{x:Obj}{o:Obj}(h:w.heap[k]?=some x)(j:Nat):(w.heap.setIfInBounds k o)[j]?=if j=k then some o else w.heap[j]?:=by
 have:=Cl h
 rw[a3l]
 by_cases e:k=j
 ·subst e;simp[this]
 ·rw[if_neg e,if_neg (b3b e)]
theorem RelSt.setMap{E:Env}{st:St}{a:Act}{w:World}{ρ:Pl}(h:RelSt E st a w ρ){b:Nat}{es es':List (Value×Value)}(hb:st.H.at b=.map es){k o:Nat}(hk:ρ b=some (some (k,o)))(entries':Array MapEntry)(clock':Nat)
  (he:entries'.toList.map (fun e=>(e.key,e.val))=es'):RelSt E {st with H:=st.H.put b (.map es')} a {w with heap:=w.heap.setIfInBounds k (.map entries' clock')} ρ:=by
 obtain⟨k0,entries,clock,g1,g2,g3,g4⟩:=h.H.map b es hb
 rw[g1]at hk
 injection hk with hk
 injection hk with hk
 injection hk with hk hk2
 subst hk hk2
 have hother:∀j,j≠k0->(w.heap.setIfInBounds k0 (.map entries' clock'))[j]?=w.heap[j]?:=fun j hj=>by rw[Th g2,if_neg hj]
 have hsh:∀j x,w.shape? j=some x->World.shape? {w with heap:=w.heap.setIfInBounds k0 (.map entries' clock')} j=some x:=fun j x hx=>by
  by_cases e:j=k0
  ·subst e;unfold World.shape? at hx;rw[g2]at hx;cases hx
  ·rw[Cn (w:=w) (hother j e)];exact hx
 have hla:Later E.L w ρ {w with heap:=w.heap.setIfInBounds k0 (.map entries' clock')} ρ:=by
  refine⟨fun _ _=>.inl rfl,fun k' o' u h1 h2=>⟨?_,h1⟩,hsh⟩
  rw[a3d (w:=w) (hother k' (fun e=>h1 (.inr ⟨b,0,e▸g1⟩)))];exact h2
 have hkk:∀{b' k' o':Nat},b'≠b->ρ b'=some (some (k',o'))->k'≠k0:=fun {b' k' o'} hne h1 e=>hne (h.H.dist _ _ k' _ 0 h1 (e▸g1))
 refine h.move hla ?_ ⟨rfl,rfl,rfl,by simp,fun i _ hn=>hother i (fun e=>hn (by rw[e];exact h.mineO g1)),hsh⟩ fun b' k' o' hk'=>h.minePut b rfl hk'
 refine⟨fun b' hb'=>?_,fun b' hb'=>?_,fun b' cs hb'=>?_,fun b' es0 hb'=>?_,h.H.dist,h.H.ext.put hla.cell (by rw[hb];rfl) rfl (fun _ _=>rfl) (by simp) (fun _ _ _ _ _ _ _ _ h=>h.later hla) fun b' k' o' hne hk'=>hother k' (hkk hne hk')⟩
 ·rw[p0e]at hb'
  by_cases e':b'=b
  ·rw[if_pos e']at hb';cases hb'
  ·rw[if_neg e']at hb';exact h.H.free b' hb'
 ·rw[p0e]at hb'
  by_cases e':b'=b
  ·rw[if_pos e']at hb';cases hb'
  ·rw[if_neg e']at hb';exact h.H.dead b' hb'
 ·rw[p0e]at hb'
  by_cases e':b'=b
  ·rw[if_pos e']at hb';cases hb'
  ·rw[if_neg e']at hb'
   obtain⟨k',o',c,el,lo,hi,h1,h2,h3,h4,h5,h6⟩:=h.H.live b' cs hb'
   refine⟨k',o',c,el,lo,hi,h1,by simp only[];rw[hother k' (hkk e' h1)];exact h2,h3,h4,h5,fun j x hj=>?_⟩
   obtain⟨u,f1,f2⟩:=h6 j x hj
   exact⟨u,f1,f2.later hla⟩
 ·rw[p0e]at hb'
  by_cases e':b'=b
  ·rw[if_pos e']at hb'
   injection hb' with hb'
   subst hb' e'
   exact⟨k0,entries',clock',g1,by simp only[];rw[Th g2,if_pos rfl],g3,he⟩
  ·rw[if_neg e']at hb'
   obtain⟨k',entries2,clock2,h1,h2,h3,h4⟩:=h.H.map b' es0 hb'
   exact⟨k',entries2,clock2,h1,by simp only[];rw[hother k' (hkk e' h1)];exact h2,h3,h4⟩
def AV.under1(n:Nat):AV->Bool
 | .lf _=>true
 | .rop _=>true
 | .ptr b _=>Nat.blt b n
 | .own b _ _ _=>Nat.blt b n
 | .mp b=>Nat.blt b n
 | .err=>true
 |_=>false
def AV.under(n:Nat):AV->Bool
 | .agg cs=>cs.all (AV.under1 n)
 | .tup cs=>cs.all (AV.under1 n)
 | .fn _ fs cs=>fs.all (AV.under1 n)&&cs.all (AV.under1 n)
 | .lf _=>true
 | .rop _=>true
 | .ptr b _=>Nat.blt b n
 | .own b _ _ _=>Nat.blt b n
 | .mp b=>Nat.blt b n
 | .err=>true
def Pl.cut(ρ:Pl)(n:Nat):Pl:=fun b=>if b<n then ρ b else none
theorem A1d{L:Nat->Prop}{ρ:Pl}{n k:Nat}(h:Fb L (ρ.cut n) k):Fb L ρ k:=by
 rcases h with h|⟨b,o,h⟩
 ·exact .inl h
 ·unfold Pl.cut at h
  split at h
  ·exact .inr ⟨b,o,h⟩
  ·cases h
theorem RelV.cut1{w:World}{L:Nat->Prop}{ρ:Pl}{n:Nat}{x:AV}{v:Value}(h:RelV w L ρ x v)(hb:x.under1 n=true):RelV w L (ρ.cut n) x v:=by
 have key:∀{x:Lf}{v:Value},RelL w (Fb L ρ) x v->RelL w (Fb L (ρ.cut n)) x v:=fun h=>h.later fun k _ _ hk hc=>⟨hc,fun hf=>hk (A1d hf)⟩
 have hcut:∀{b:Nat},Nat.blt b n=true->(ρ.cut n) b=ρ b:=fun {b} hb=>by
  have:b<n:=a0c hb
  unfold Pl.cut;rw[if_pos this]
 cases h with
 |lf x v h=>exact .lf x v (key h)
 |rop cs ad V hs h1 h2=>exact .rop cs ad V hs (fun j x hj=>⟨fun hf=>(h1 j x hj).1 (A1d hf),(h1 j x hj).2⟩) fun j x hj=>key (h2 j x hj)
 |ptr b off v hn h1 h=>exact .ptr b off v (by rw[hcut hb];exact hn) h1 (by rw[hcut hb];exact h)
 |own b off len st v hn h1 h=>exact .own b off len st v (by rw[hcut hb];exact hn) h1 (by rw[hcut hb];exact h)
 |mp b v hn h1 h=>exact .mp b v (by rw[hcut hb];exact hn) h1 (by rw[hcut hb];exact h)
 |err t u=>exact .err t u
 |_=>cases hb
theorem RelV.cut{w:World}{L:Nat->Prop}{ρ:Pl}{n:Nat}{x:AV}{v:Value}(h:RelV w L ρ x v)(hb:x.under n=true):RelV w L (ρ.cut n) x v:=by
 cases h with
 |agg cs vs hl h=>exact .agg cs vs hl fun i x v hx hv=>(h i x v hx hv).cut1 (a0l.1 hb x (a0a hx))
 |tup cs vs hl h=>exact .tup cs vs hl fun i x v hx hv=>(h i x v hx hv).cut1 (a0l.1 hb x (a0a hx))
 |fn f fs cs us vs hl hm h k=>
  simp only[AV.under,a0w]at hb
  exact .fn f fs cs us vs hl hm (fun i x v hx hv=>(h i x v hx hv).cut1 (a0l.1 hb.1 x (a0a hx))) fun i x v hx hv=>(k i x v hx hv).cut1 (a0l.1 hb.2 x (a0a hx))
 |lf x v h=>exact(RelV.lf x v h).cut1 rfl
 |rop cs ad V hs h1 h2=>exact(RelV.rop cs ad V hs h1 h2).cut1 rfl
 |ptr b off v hn h1 h=>exact(RelV.ptr b off v hn h1 h).cut1 hb
 |own b off len st v hn h1 h=>exact(RelV.own b off len st v hn h1 h).cut1 hb
 |mp b v hn h1 h=>exact(RelV.mp b v hn h1 h).cut1 hb
 |err t u=>exact .err t u
theorem RelSt.cut{E:Env}{st:St}{a:Act}{w:World}{ρ:Pl}(h:RelSt E st a w ρ){n:Nat}{tm':Tm}{H':AH}(htm:∀t x,tm'.get t=some x->st.tm.get t=some x/\x.under n=true)(hlen:∀b,n<=b->H'.at b=.free)(hH:∀b,b<n->H'.at b=st.H.at b)
  (hc:∀b cells,H'.at b=.live cells->∀x∈cells,x.under n=true) (hx:∀b T e b2 s,H'.at b=.bld T e b2 s->b2<n) (hgc:∀b cs vs,H'.at b=.gho cs vs->∀x∈cs,x.under n=true):RelSt E ⟨tm',H'⟩ a w (ρ.cut n):=by
 have hcut:∀{b:Nat}{p},(ρ.cut n) b=some p->b<n/\ρ b=some p:=fun {b p} hp=>by
  unfold Pl.cut at hp
  split at hp
  ·exact⟨by assumption,hp⟩
  ·cases hp
 have hin:∀{b:Nat},b<n->(ρ.cut n) b=ρ b:=fun hb=>by unfold Pl.cut;rw[if_pos hb]
 have lt:∀{b:Nat}{x:HB},x≠.free->H'.at b=x->b<n:=fun {b x} hx hb=>by
  rcases a0y b n with h|h
  ·exact h
  ·rw[hlen b h]at hb;exact absurd hb.symm hx
 refine⟨h.size,h.defers,fun t x hx=>⟨(h.tm t x (htm t x hx).1).1,(h.tm t x (htm t x hx).1).2.cut (htm t x hx).2⟩,⟨fun b hb=>?_,fun b hb=>?_,fun b cells hb=>?_,fun b es hb=>?_,fun b b' k o o' h1 h2=>h.H.dist b b' k o o' (hcut h1).2 (hcut h2).2,⟨fun b T e b2 s hb=>?_,fun b hb=>?_,fun b b' T e T' e' b2 s s' e1 e2=>h.H.ext.one b b' T e T' e' b2 s s' (by rw[<-hH b (lt (by simp) e1)];exact e1) (by rw[<-hH b' (lt (by simp) e2)];exact e2),fun b k o cs hb=>?_,fun b cs vs hb=>?_⟩⟩,h.fr,fun b k o hk=>by rw[hH b (hcut hk).1];exact h.mine b k o (hcut hk).2,h.lim⟩
 ·by_cases hbn:b<n
  ·rw[hin hbn];exact h.H.free b (by rw[<-hH b hbn];exact hb)
  ·unfold Pl.cut;rw[if_neg hbn]
 ·have hbn:=lt (by simp) hb
  rw[hin hbn];exact h.H.dead b (by rw[<-hH b hbn];exact hb)
 ·have hbn:=lt (by simp) hb
  obtain⟨k,o,c,e,lo,hi,h1,h2,h3,h4,h5,h6⟩:=h.H.live b cells (by rw[<-hH b hbn];exact hb)
  refine⟨k,o,c,e,lo,hi,by rw[hin hbn];exact h1,h2,h3,h4,h5,fun j x hj=>?_⟩
  obtain⟨v,g1,g2⟩:=h6 j x hj
  exact⟨v,g1,g2.cut (hc b cells hb x (a0a hj))⟩
 ·have hbn:=lt (by simp) hb
  obtain⟨k,entries,clock,h1,h2,h3,h4⟩:=h.H.map b es (by rw[<-hH b hbn];exact hb)
  exact⟨k,entries,clock,by rw[hin hbn];exact h1,h2,h3,h4⟩
 ·have hbn:=lt (by simp) hb
  have hb2:=hx b T e b2 s hb
  obtain⟨g1,g2⟩:=h.H.ext.bld b T e b2 s (by rw[<-hH b hbn];exact hb)
  exact⟨by rw[hH b2 hb2];exact g1,g2.move (hin hbn) (hin hb2) fun _ _ _ _ _=>rfl⟩
 ·have hbn:=lt (by simp) hb
  obtain⟨g1,g2⟩:=h.H.ext.hid b (by rw[<-hH b hbn];exact hb)
  rw[hin hbn]
  exact⟨g1,g2⟩
 ·have hbn:=lt (by simp) hb
  exact(h.H.ext.hot b k o cs (by rw[<-hH b hbn];exact hb)).move (hin hbn) (fun k o u h1 h2=>⟨h2,fun hf=>h1 (A1d hf)⟩) fun _ _ _=>rfl
 ·have hbn:=lt (by simp) hb
  obtain⟨g1,g2,g3⟩:=h.H.ext.gho b cs vs (by rw[<-hH b hbn];exact hb)
  exact⟨by rw[hin hbn];exact g1,g2,fun i x v hx hv=>(g3 i x v hx hv).cut (hgc b cs vs hb x (a0a hx))⟩
structure T(P:Program)(N:Nat)(c:Code)(st:St)(Q:Exit->St->Prop):Prop where
 out:∀(E:Env)(a:Act)(w:World)(ρ:Pl),E.N=N->RelSt E st a w ρ->c.wp P (fun e a' w'=>∃st' ρ',Q e st'/\RelSt E st' a' w' ρ') a w
def Cv(Y:St->Prop)(Q:Exit->St->Prop):Exit->St->Prop
 | .normal,st=>Y st
 | .exit i,st=>Q (.exit i) st
 | .goto i,st=>Q (.goto i) st
 | .ret,st=>Q .ret st
 | .panic c,st=>Q (.panic c) st
 | .outgrown,st=>Q .outgrown st
def Bq(id:Nat)(Q:Exit->St->Prop):Exit->St->Prop
 | .exit i,st=>match Nat.beq i id with|true=>Q .normal st|false=>Q (.exit i) st
 | .normal,st=>Q .normal st
 | .goto i,st=>Q (.goto i) st
 | .ret,st=>Q .ret st
 | .panic c,st=>Q (.panic c) st
 | .outgrown,st=>Q .outgrown st
section
variable {P:Program}{N:Nat}{st:St}{Q:Exit->St->Prop}
theorem T.mono{c:Code}{Q':Exit->St->Prop}(h:T P N c st Q)(hq:∀e st,Q e st->Q' e st):T P N c st Q':=⟨fun E a w ρ hE hr=>
 wp_mono (h.out E a w ρ hE hr) fun e a' w' ⟨st',ρ',q,r⟩=>⟨st',ρ',hq _ _ q,r⟩⟩
theorem T.skip(h:Q .normal st):T P N .skip st Q:=⟨fun E a w ρ hE hr=>wp_skip ⟨st,ρ,h,hr⟩⟩
theorem T.exit{id:Nat}(h:Q (.exit id) st):T P N (.exit id) st Q:=⟨fun E a w ρ hE hr=>wp_exit ⟨st,ρ,h,hr⟩⟩
theorem T.ret(h:Q .ret st):T P N .ret st Q:=⟨fun E a w ρ hE hr=>wp_ret ⟨st,ρ,h,hr⟩⟩
theorem T.seq{x y:Code}(h:T P N x st (Cv (fun st'=>T P N y st' Q) Q)):T P N (.seq x y) st Q:=⟨fun E a w ρ hE hr=>by
 refine wp_seq (wp_mono (h.out E a w ρ hE hr) ?_)
 rintro e a' w' ⟨st',ρ',q,r⟩
 cases e with
 |normal=>exact q.out E a' w' ρ' hE r
 |exit i=>exact⟨st',ρ',q,r⟩
 |goto i=>exact⟨st',ρ',q,r⟩
 |ret=>exact⟨st',ρ',q,r⟩
 |panic c=>exact⟨st',ρ',q,r⟩
 |outgrown=>exact⟨st',ρ',q,r⟩⟩
theorem T.cut{x y:Code}(I:St->Prop)(h:T P N x st (Cv I Q))(k:∀st',I st'->T P N y st' Q):T P N (.seq x y) st Q:=
 T.seq (h.mono fun e s q=>by cases e<;>first|exact k _ q|exact q)
theorem T.block{id:Nat}{c:Code}(h:T P N c st (Bq id Q)):T P N (.block id c) st Q:=⟨fun E a w ρ hE hr=>by
 refine wp_block (wp_mono (h.out E a w ρ hE hr) ?_)
 rintro e a' w' ⟨st',ρ',q,r⟩
 cases e with
 |exit i=>
  simp only[Exit.inBlock]
  by_cases hi:i=id
  ·subst hi
   rw[if_pos rfl]
   simp only[Bq,a6p]at q
   exact⟨st',ρ',q,r⟩
  ·rw[if_neg hi]
   simp only[Bq,Gw hi]at q
   exact⟨st',ρ',q,r⟩
 |normal=>exact⟨st',ρ',q,r⟩
 |goto i=>exact⟨st',ρ',q,r⟩
 |ret=>exact⟨st',ρ',q,r⟩
 |panic c=>exact⟨st',ρ',q,r⟩
 |outgrown=>exact⟨st',ρ',q,r⟩⟩
theorem T.weaken{c:Code}(tm:Tm)(ht:∀t x,tm.get t=some x->st.tm.get t=some x)(h:T P N c {st with tm} Q):T P N c st Q:=⟨fun E a w ρ hE hr=>h.out E a w ρ hE (hr.weaken tm ht)⟩
inductive Cov(tm:Tm)(n:Nat):Tm->Prop
 |nil:Cov tm n []
 |cons {k:Nat} {x:AV} {r:Tm} (h:tm.get k=some x) (hb:x.under n=true) (c:Cov tm n r):Cov tm n ((k,x)::r)
inductive CovH(n:Nat):AH->AH->Prop
 |nil {H:AH}:CovH n H []
 |live {cs:List AV} {H H':AH} (hb:cs.all (AV.under n)=true) (c:CovH n H H'):CovH n (.live cs::H) (.live cs::H')
 |dead {H H':AH} (c:CovH n H H'):CovH n (.dead::H) (.dead::H')
 |map {es:List (Value×Value)} {H H':AH} (c:CovH n H H'):CovH n (.map es::H) (.map es::H')
 |bld {T e:TypeId} {b2:Nat} {s:List Value} {H H':AH} (hb:Nat.blt b2 n=true) (c:CovH n H H'):CovH n (.bld T e b2 s::H) (.bld T e b2 s::H')
 |hid {H H':AH} (c:CovH n H H'):CovH n (.hid::H) (.hid::H')
 |hot {k o:Nat} {cs:List Lf} {H H':AH} (c:CovH n H H'):CovH n (.hot k o cs::H) (.hot k o cs::H')
 |gho {cs:List AV} {vs:List Value} {H H':AH} (hb:cs.all (AV.under n)=true) (c:CovH n H H'):CovH n (.gho cs vs::H) (.gho cs vs::H')
theorem Cov.get{tm:Tm}{n:Nat}:∀{tm':Tm},Cov tm n tm'->∀t x,tm'.get t=some x->tm.get t=some x/\x.under n=true
 |_,.nil,t,x,h=>by cases h
 |_,.cons (k:=k) h hb c,t,x,hx=>by
  rw[p0w]at hx
  by_cases e:k=t
  ·rw[if_pos e]at hx
   injection hx with hx
   subst e hx
   exact⟨h,hb⟩
  ·rw[if_neg e]at hx;exact c.get t x hx
theorem CovH.at{n:Nat}:∀{H H':AH},CovH n H H'->(∀b,b<H'.length->H'.at b=H.at b)/\(∀b cells,H'.at b=.live cells->∀x∈cells,x.under n=true)/\∀b T e b2 s,H'.at b=.bld T e b2 s->b2<n
 |_,_,.nil=>⟨fun b h=>by simp at h,fun b cells h=>by simp[AH.at]at h,fun b T e b2 s h=>by simp[AH.at]at h⟩
 |_,_,.live hb c=>by
  obtain⟨h1,h2,h3⟩:=c.at
  refine⟨fun b h=>?_,fun b cells h x hx=>?_,fun b T e b2 s h=>?_⟩
  ·cases b with
   |zero=>rfl
   |succ b=>rw[p0k,p0k];exact h1 b (by simpa using h)
  ·cases b with
   |zero=>simp[AH.at]at h;subst h;exact a0l.1 hb x hx
   |succ b=>rw[p0k]at h;exact h2 b cells h x hx
  ·cases b with
   |zero=>simp[AH.at]at h
   |succ b=>rw[p0k]at h;exact h3 b T e b2 s h
 |_,_,.dead c=>by
  obtain⟨h1,h2,h3⟩:=c.at
  refine⟨fun b h=>?_,fun b cells h x hx=>?_,fun b T e b2 s h=>?_⟩
  ·cases b with
   |zero=>rfl
   |succ b=>rw[p0k,p0k];exact h1 b (by simpa using h)
  ·cases b with
   |zero=>simp[AH.at]at h
   |succ b=>rw[p0k]at h;exact h2 b cells h x hx
  ·cases b with
   |zero=>simp[AH.at]at h
   |succ b=>rw[p0k]at h;exact h3 b T e b2 s h
 |_,_,.map c=>by
  obtain⟨h1,h2,h3⟩:=c.at
  refine⟨fun b h=>?_,fun b cells h x hx=>?_,fun b T e b2 s h=>?_⟩
  ·cases b with
   |zero=>rfl
   |succ b=>rw[p0k,p0k];exact h1 b (by simpa using h)
  ·cases b with
   |zero=>simp[AH.at]at h
   |succ b=>rw[p0k]at h;exact h2 b cells h x hx
  ·cases b with
   |zero=>simp[AH.at]at h
   |succ b=>rw[p0k]at h;exact h3 b T e b2 s h
 |_,_,.bld hb c=>by
  obtain⟨h1,h2,h3⟩:=c.at
  refine⟨fun b h=>?_,fun b cells h x hx=>?_,fun b T e b2 s h=>?_⟩
  ·cases b with
   |zero=>rfl
   |succ b=>rw[p0k,p0k];exact h1 b (by simpa using h)
  ·cases b with
   |zero=>simp[AH.at]at h
   |succ b=>rw[p0k]at h;exact h2 b cells h x hx
  ·cases b with
   |zero=>simp[AH.at]at h;obtain⟨rfl,rfl,rfl,rfl⟩:=h;exact a0c hb
   |succ b=>rw[p0k]at h;exact h3 b T e b2 s h
 |_,_,.hid c=>by
  obtain⟨h1,h2,h3⟩:=c.at
  refine⟨fun b h=>?_,fun b cells h x hx=>?_,fun b T e b2 s h=>?_⟩
  ·cases b with
   |zero=>rfl
   |succ b=>rw[p0k,p0k];exact h1 b (by simpa using h)
  ·cases b with
   |zero=>simp[AH.at]at h
   |succ b=>rw[p0k]at h;exact h2 b cells h x hx
  ·cases b with
   |zero=>simp[AH.at]at h
   |succ b=>rw[p0k]at h;exact h3 b T e b2 s h
 |_,_,.gho _ c=>by
  obtain⟨h1,h2,h3⟩:=c.at
  refine⟨fun b h=>?_,fun b cells h x hx=>?_,fun b T e b2 s h=>?_⟩
  ·cases b with
   |zero=>rfl
   |succ b=>rw[p0k,p0k];exact h1 b (by simpa using h)
  ·cases b with
   |zero=>simp[AH.at]at h
   |succ b=>rw[p0k]at h;exact h2 b cells h x hx
  ·cases b with
   |zero=>simp[AH.at]at h
   |succ b=>rw[p0k]at h;exact h3 b T e b2 s h
 |_,_,.hot c=>by
  obtain⟨h1,h2,h3⟩:=c.at
  refine⟨fun b h=>?_,fun b cells h x hx=>?_,fun b T e b2 s h=>?_⟩
  ·cases b with
   |zero=>rfl
   |succ b=>rw[p0k,p0k];exact h1 b (by simpa using h)
  ·cases b with
   |zero=>simp[AH.at]at h
   |succ b=>rw[p0k]at h;exact h2 b cells h x hx
  ·cases b with
   |zero=>simp[AH.at]at h
   |succ b=>rw[p0k]at h;exact h3 b T e b2 s h
theorem CovH.at_gho{n:Nat}:∀{H H':AH},CovH n H H'->∀b cs vs,H'.at b=.gho cs vs->∀x∈cs,x.under n=true:=fun c=>by
 induction c with
 |nil=>intro b cs vs h;simp[AH.at]at h
 |gho hb c ih=>
  intro b cs vs h
  cases b with
  |zero=>simp[AH.at]at h;obtain⟨rfl,rfl⟩:=h;exact fun x hx=>a0l.1 hb x hx
  |succ b=>rw[p0k]at h;exact ih b cs vs h
 |_=>
  rename_i ih
  intro b cs vs h
  cases b with
  |zero=>simp[AH.at]at h
  |succ b=>rw[p0k]at h;exact ih b cs vs h
theorem RelSt.cov{E:Env}{tm tm':Tm}{H H':AH}{a:Act}{w:World}{ρ:Pl}(h:RelSt E ⟨tm,H⟩ a w ρ)(ht:Cov tm H'.length tm')(hH:CovH H'.length H H'):∃ρ',RelSt E ⟨tm',H'⟩ a w ρ':=
 ⟨_,h.cut (n:=H'.length) ht.get (fun b hb=>by simp[AH.at,a0v hb]) hH.at.1 hH.at.2.1 hH.at.2.2 hH.at_gho⟩
theorem T.cov{c:Code}{tm tm':Tm}{H H':AH}(ht:Cov tm H'.length tm')(hH:CovH H'.length H H')(h:T P N c ⟨tm',H'⟩ Q):T P N c ⟨tm,H⟩ Q:=⟨fun E a w ρ hE hr=>by
 obtain⟨ρ',hr'⟩:=hr.cov ht hH
 exact h.out E a w ρ' hE hr'⟩
theorem A7m{p:Nat->Prop}(h:∃n,p n):∃n,p n/\∀m,p m->n<=m:=by
 obtain⟨n,hn⟩:=h
 induction n using Nat.strongRecOn with
 |_ n ih=>
  by_cases hm:∃m,m<n/\p m
  ·obtain⟨m,h1,h2⟩:=hm
   exact ih m h1 h2
  ·refine⟨n,hn,fun m hp=>?_⟩
   rcases a0y m n with h|h
   ·exact absurd ⟨m,h,hp⟩ hm
   ·exact h
theorem T.loop{c:Code}(I:Nat->St->Prop){n:Nat}(h0:I n st)(round:∀n st,I n st->T P N c st (Cv (fun st'=>∃m,m<n/\I m st') Q)):T P N (.loop c) st Q:=⟨fun E a w ρ hE hr=>by
 let p:Act->World->Nat->Prop:=fun a w n=>∃st ρ,I n st/\RelSt E st a w ρ
 let μ:Act->World->Nat:=fun a w=> @dite _ (∃n,p a w n) (Classical.propDecidable _) (fun h=>(A7m h).choose) (fun _=>0)
 have hμ:∀a w,(∃n,p a w n)->p a w (μ a w)/\∀m,p a w m->μ a w<=m:=fun a w h=>by
  have:=(A7m h).choose_spec
  simp only[μ,dif_pos h]
  exact this
 refine wp_loop (fun a w=>∃n,p a w n) μ ⟨n,st,ρ,h0,hr⟩ fun a w hI=>?_
 obtain⟨⟨s,r,h1,h2⟩,_⟩:=hμ a w hI
 refine wp_mono ((round _ s h1).out E a w r hE h2) ?_
 rintro e a' w' ⟨st',ρ',q,hr'⟩
 cases e with
 |normal=>
  obtain⟨m,hm,hi⟩:=q
  have hI':∃n,p a' w' n:=⟨m,st',ρ',hi,hr'⟩
  exact⟨hI',Nat.lt_of_le_of_lt ((hμ a' w' hI').2 m ⟨st',ρ',hi,hr'⟩) hm⟩
 |exit i=>exact⟨st',ρ',q,hr'⟩
 |goto i=>exact⟨st',ρ',q,hr'⟩
 |ret=>exact⟨st',ρ',q,hr'⟩
 |panic c=>exact⟨st',ρ',q,hr'⟩
 |outgrown=>exact⟨st',ρ',q,hr'⟩⟩
end

section
variable {P:Program}{N:Nat}{Q:Exit->St->Prop}
def Next{α:Type}(I:α->Prop)(μ:α->Nat)(S:α->Tm)(G:α->AH)(a:α)(st:St):Prop:=∃b,I b/\μ b<μ a/\Cov st.tm (G b).length (S b)/\CovH (G b).length st.H (G b)
theorem Next.go{α:Type}{I:α->Prop}{μ:α->Nat}{S:α->Tm}{G:α->AH}{a:α}{tm:Tm}{H:AH}(b:α)(h1:I b)(h2:μ b<μ a)(h3:Cov tm (G b).length (S b))(h4:CovH (G b).length H (G b)):Next I μ S G a ⟨tm,H⟩:=⟨b,h1,h2,h3,h4⟩
theorem p0c{α:Type}{c:Code}{tm:Tm}{H:AH}(I:α->Prop)(μ:α->Nat)(S:α->Tm)(G:α->AH)(a0:α)(hI:I a0)(ht:Cov tm (G a0).length (S a0))(hH:CovH (G a0).length H (G a0))
  (round:∀a,I a->T P N c ⟨S a,G a⟩ (Cv (Next I μ S G a) Q)):T P N (.loop c) ⟨tm,H⟩ Q:=by
 refine T.cov ht hH (T.loop (fun n st=>∃a,I a/\μ a=n/\(st=⟨S a,G a⟩\/∃tm H,st=⟨tm,H⟩/\Cov tm (G a).length (S a)/\CovH (G a).length H (G a))) (n:=μ a0) ?_ ?_)
 ·exact⟨a0,hI,rfl,.inl rfl⟩
 ·rintro n st ⟨a,hI,rfl,hs⟩
  have key:=(round a hI).mono (Q':=Cv (fun st'=>∃m,m<μ a/\∃b,I b/\μ b=m/\(st'=⟨S b,G b⟩\/∃tm H,st'=⟨tm,H⟩/\Cov tm (G b).length (S b)/\CovH (G b).length H (G b))) Q) fun e st q=>by
   cases e with
   |normal=>
    obtain⟨b,g1,g2,g3,g4⟩:=q
    exact⟨_,g2,b,g1,rfl,.inr ⟨st.tm,st.H,rfl,g3,g4⟩⟩
   |_=>exact q
  rcases hs with rfl|⟨tm,H,rfl,h1,h2⟩
  ·exact key
  ·exact T.cov h1 h2 key
end

/-! ### Operands -/
def AV.cst:Value->AV
 | .agg cs=>.agg (cs.toList.map .val)
 | .bool b=>.val (.bool b)
 | .int k n=>.val (.int k n)
 | .float k n=>.val (.float k n)
 | .complex k n m=>.val (.complex k n m)
 | .string s=>.val (.string s)
 | .pointer a=>.val (.pointer a)
 | .slice a n c=>.val (.slice a n c)
 | .map r=>.val (.map r)
 | .chan r=>.val (.chan r)
 | .func f x y=>.val (.func f x y)
 | .nilFunc=>.val .nilFunc
 | .iface t v=>.val (.iface t v)
 | .nilIface=>.val .nilIface
 | .tuple vs=>.val (.tuple vs)
def St.ev(st:St):Operand->Option AV
 | .tmp t=>st.tm.get t
 | .const v=>some (AV.cst v)
 | .func f=>some (.fn (.func f) [] [])
 | .global _=>none
theorem RelL.val_eq{w:World}{F:Nat->Prop}{u v:Value}(h:RelL w F (.val u) v):v=u:=by
 generalize e:Lf.val u=x at h
 cases h<;>cases e
 rfl
theorem RelV.lf_out{w:World}{L:Nat->Prop}{ρ:Pl}{x:Lf}{v:Value}(h:RelV w L ρ (.lf x) v):RelL w (Fb L ρ) x v:=by
 generalize e:AV.lf x=y at h
 cases h<;>cases e
 assumption
theorem RelV.val_eq{w:World}{L:Nat->Prop}{ρ:Pl}{u v:Value}(h:RelV w L ρ (.val u) v):v=u:=h.lf_out.val_eq
theorem Ab{w:World}{L:Nat->Prop}{ρ:Pl}(v:Value):RelV w L ρ (.val v) v:=.lf _ _ (.val v)
theorem Po{w:World}{L:Nat->Prop}{ρ:Pl}(v:Value):RelV w L ρ (AV.cst v) v:=by
 cases v with
 |agg cs=>
  have:(Value.agg cs)=.agg cs.toList.toArray:=by simp
  rw[this,AV.cst]
  refine .agg _ _ (by simp) fun i x v h1 h2=>?_
  rw[a0d,h2]at h1
  simp at h1
  subst h1
  exact Ab v
 |_=>exact Ab _
theorem RelSt.ev{E:Env}{st:St}{a:Act}{w:World}{ρ:Pl}(h:RelSt E st a w ρ){x:Operand}{y:AV}(hx:st.ev x=some y):RelV w E.L ρ y (a.eval x):=by
 cases x with
 |tmp t=>exact(h.tm t y hx).2
 |const v=>
  simp only[St.ev,a0h]at hx
  subst hx
  exact Po v
 |func f=>
  simp only[St.ev,a0h]at hx
  subst hx
  exact .fn (.func f) [] [] [] [] rfl rfl (fun i x v h=>by simp at h) (fun i x v h=>by simp at h)
 |global g=>cases hx

/-! ### Operations that yield a value, and may make one block -/
def OpV(P:Program)(o:Oper)(ev:Operand->Option AV)(Hf:Nat->HB)(r:AV)(nw:Option (Nat×List AV)):Prop:=
 ∀(E:Env)(st:St)(a:Act)(w:World)(ρ:Pl)(K:Act->World->Prop)(Q:Exit->Act->World->Prop),RelSt E st a w ρ->
  (∀x∈o.op.operands,∀y,ev x=some y->st.ev x=some y)->(∀b cs,Hf b=.live cs->st.H.at b=.live cs)->(∀b cs,nw=some (b,cs)->st.H.at b=.free)->
  (∀w' ρ' v,RelSt E {st with H:=match nw with|some (b,cs)=>st.H.put b (.live cs)|none=>st.H} a w' ρ'->RelV w' E.L ρ' r v->K (a.put o.dst v) w')->o.wp P a w K Q
def RegL(P:Program)(N:Nat)(ops:Array Oper)(l:List Oper)(st:St)(K:St->Prop):Prop:=
 ∀(E:Env)(a:Act)(w:World)(ρ:Pl),E.N=N->RelSt E st a w ρ->wpList P ops (fun e a' w'=>e=.normal/\∃st' ρ',K st'/\RelSt E st' a' w' ρ') l a w
section
variable {P:Program}{N:Nat}{st:St}{ops:Array Oper}{K:St->Prop}
theorem T.region{id:Nat}{l:List Oper}{Q:Exit->St->Prop}(h:RegL P N l.toArray l st (Q .normal)):T P N (.region id l.toArray false) st Q:=⟨fun E a w ρ hE hr=>by
 refine wp_mono (wp_region_lit (h E a w ρ hE hr)) ?_
 rintro e a' w' ⟨rfl,h⟩
 exact h⟩
theorem RegL.nil(h:K st):RegL P N ops [] st K:=fun E a w ρ hE hr=>wpList_nil ⟨rfl,st,ρ,h,hr⟩
theorem RegL.val{o:Oper}{rest:List Oper}{d:Nat}{r:AV}(ho:OpV P o st.ev st.H.at r none)(hg:o.guard=none)(hd:o.dst=some d)(hN:LN d N)(h:RegL P N ops rest {st with tm:=(d,r)::st.tm} K):RegL P N ops (o::rest) st K:=fun E a w ρ hE hr=>by
 refine wpList_plain hg fun K' hK=>ho E st a w ρ K' _ hr (fun _ _ _ h=>h) (fun _ _ h=>h) (fun _ _ h=>by cases h) fun w' ρ' v hr' hv=>?_
 rw[hd]
 refine hK _ _ (h E _ w' ρ' hE (hr'.put (by rw[hE];exact a0c hN) hv))
theorem RegL.new{o:Oper}{rest:List Oper}{d:Nat}{r:AV}{cs:List AV}(ho:OpV P o st.ev st.H.at r (some (st.H.length,cs)))(hg:o.guard=none)(hd:o.dst=some d)(hN:LN d N)
  (h:RegL P N ops rest {tm:=(d,r)::st.tm,H:=st.H.put st.H.length (.live cs)} K):RegL P N ops (o::rest) st K:=fun E a w ρ hE hr=>by
 refine wpList_plain hg fun K' hK=>ho E st a w ρ K' _ hr (fun _ _ _ h=>h) (fun _ _ h=>h) (fun b cs' h=>?_) fun w' ρ' v hr' hv=>?_
 ·injection h with h
  injection h with h _
  subst h
  simp[AH.at]
 ·rw[hd]
  refine hK _ _ (h E _ w' ρ' hE (hr'.put (by rw[hE];exact a0c hN) hv))
end
theorem RelV.agg_out{w:World}{L:Nat->Prop}{ρ:Pl}{cs:List AV}{v:Value}(h:RelV w L ρ (.agg cs) v):∃vs:List Value,v=.agg vs.toArray/\cs.length=vs.length/\∀(i:Nat)(x:AV)(u:Value),cs[i]?=some x->vs[i]?=some u->RelV w L ρ x u:=by
 generalize e:AV.agg cs=y at h
 cases h<;>cases e
 exact⟨_,rfl,by assumption,by assumption⟩
theorem RelV.tup_out{w:World}{L:Nat->Prop}{ρ:Pl}{cs:List AV}{v:Value}(h:RelV w L ρ (.tup cs) v):∃vs:List Value,v=.tuple vs.toArray/\cs.length=vs.length/\∀(i:Nat)(x:AV)(u:Value),cs[i]?=some x->vs[i]?=some u->RelV w L ρ x u:=by
 generalize e:AV.tup cs=y at h
 cases h<;>cases e
 exact⟨_,rfl,by assumption,by assumption⟩
theorem RelV.rop_out{w:World}{L:Nat->Prop}{ρ:Pl}{cs:List Lf}{v:Value}(h:RelV w L ρ (.rop cs) v):∃(ad:Addr)(V:Nat->Value),v=.pointer (some ad)/\ad.spot=none/\(∀(j:Nat)(x:Lf),cs[j]?=some x->¬Fb L ρ ad.block/\w.cell? ⟨ad.block,ad.off+j,none⟩=some (V j))/\∀(j:Nat)(x:Lf),cs[j]?=some x->RelL w (Fb L ρ) x (V j):=by
 generalize e:AV.rop cs=y at h
 cases h<;>cases e
 exact⟨_,_,rfl,by assumption,by assumption,by assumption⟩
theorem RelV.ptr_out{w:World}{L:Nat->Prop}{ρ:Pl}{b off:Nat}{v:Value}(h:RelV w L ρ (.ptr b off) v):∀k o,ρ b=some (some (k,o))->v=.pointer (some ⟨k,o+off,none⟩):=by
 generalize e:AV.ptr b off=y at h
 cases h<;>cases e
 assumption
theorem RelV.own_out{w:World}{L:Nat->Prop}{ρ:Pl}{b off len st:Nat}{v:Value}(h:RelV w L ρ (.own b off len st) v):∀k o,ρ b=some (some (k,o))->∃cap e n,v=.slice (some ⟨k,o+off,none⟩) len cap/\len<=cap/\w.shape? k=some (e,n)/\o+off+cap*st<=n:=by
 generalize e:AV.own b off len st=y at h
 cases h<;>cases e
 assumption
theorem RelV.err_out{w:World}{L:Nat->Prop}{ρ:Pl}{v:Value}(h:RelV w L ρ .err v):∃t u,v=.iface t u:=by
 generalize e:AV.err=y at h
 cases h<;>cases e
 exact⟨_,_,rfl⟩
theorem RelL.sl_out{w:World}{F:Nat->Prop}{rows:List (List Lf)}{v:Value}(h:RelL w F (.sl rows) v):(rows=[]/\v=.slice none 0 0)\/∃(ad:Addr)(cap:Nat)(V:Nat->Nat->Value),v=.slice (some ad) rows.length cap/\(ad.spot=none\/cap=0)/\rows.length<=cap/\
  (∀(i:Nat)(row:List Lf)(j:Nat)(x:Lf),rows[i]?=some row->row[j]?=some x->¬F ad.block/\w.cell? ⟨ad.block,ad.off+(i*row.length+j),none⟩=some (V i j))/\
  ∀(i:Nat)(row:List Lf)(j:Nat)(x:Lf),rows[i]?=some row->row[j]?=some x->RelL w F x (V i j):=by
 generalize e:Lf.sl rows=y at h
 cases h<;>cases e
 ·exact .inl ⟨rfl,rfl⟩
 ·exact .inr ⟨_,_,_,rfl,by assumption,by assumption,by assumption,by assumption⟩
theorem RelL.slice{w:World}{F:Nat->Prop}{rows:List (List Lf)}{v:Value}(h:RelL w F (.sl rows) v):∃a cap,v=.slice a rows.length cap/\rows.length<=cap:=by
 rcases h.sl_out with⟨rfl,rfl⟩|⟨ad,cap,V,rfl,_,hc,_⟩
 ·exact⟨none,0,rfl,a0n _⟩
 ·exact⟨some ad,cap,rfl,hc⟩
theorem RelL.fn_out{w:World}{F:Nat->Prop}{f:Fn}{caps:List (List Lf)}{v:Value}(h:RelL w F (.fn f caps) v):∃(ads:List Addr)(V:Nat->Nat->Value),v=.func f #[] (ads.map fun ad=>Value.pointer (some ad)).toArray/\caps.length=ads.length/\(∀(i:Nat)(ad:Addr),ads[i]?=some ad->ad.spot=none)/\
  (∀(i:Nat)(cs:List Lf)(ad:Addr)(j:Nat)(x:Lf),caps[i]?=some cs->ads[i]?=some ad->cs[j]?=some x->¬F ad.block/\w.cell? ⟨ad.block,ad.off+j,none⟩=some (V i j))/\
  ∀(i:Nat)(cs:List Lf)(j:Nat)(x:Lf),caps[i]?=some cs->cs[j]?=some x->RelL w F x (V i j):=by
 generalize e:Lf.fn f caps=y at h
 cases h<;>cases e
 exact⟨_,_,rfl,‹_›,‹_›,‹_›,‹_›⟩
theorem RelV.fn_out{w:World}{L:Nat->Prop}{ρ:Pl}{f:Fn}{fs cs:List AV}{v:Value}(h:RelV w L ρ (.fn f fs cs) v):∃us vs:List Value,v=.func f us.toArray vs.toArray/\fs.length=us.length/\cs.length=vs.length/\(∀(i:Nat)(x:AV)(u:Value),fs[i]?=some x->us[i]?=some u->RelV w L ρ x u)/\∀(i:Nat)(x:AV)(u:Value),cs[i]?=some x->vs[i]?=some u->RelV w L ρ x u:=by
 generalize e:AV.fn f fs cs=y at h
 cases h<;>cases e
 exact⟨_,_,rfl,by assumption,by assumption,by assumption,by assumption⟩

section
variable {P:Program}{o:Oper}{ev:Operand->Option AV}{Hf:Nat->HB}
theorem OpV.mk{r:AV}(h:∀(L:Nat->Prop)(w:World)(ρ:Pl)(η:Operand->Value),(∀x∈o.op.operands,∀y,ev x=some y->RelV w L ρ y (η x))->
  (∀b cs,Hf b=.live cs->∃k o c e lo hi,ρ b=some (some (k,o))/\w.heap[k]?=some (.cells c e (lo,hi))/\o+cs.length<=c.size/\∀(j:Nat)(x:AV),cs[j]?=some x->∃v,c[o+j]?=some v/\RelV w L ρ x v)->
  ∃v,(execOp η o).run P w=.ok (.value v) w/\RelV w L ρ r v):OpV P o ev Hf r none:=fun E st a w ρ K Q hr he hH hn hK=>by
 obtain⟨v,h1,h2⟩:=h E.L w ρ a.eval (fun x hx y hy=>hr.ev (he x hx y hy)) fun b cs hb=>by
  obtain⟨k,o,c,e,lo,hi,g1,g2,g3,g4,g5,g6⟩:=hr.H.live b cs (hH b cs hb)
  exact⟨k,o,c,e,lo,hi,g1,g2,g4,g6⟩
 unfold Oper.wp
 rw[h1]
 exact hK w ρ v hr h2

/-! ### Values only -/
def AV.flat:AV->Option Value
 | .lf (.val v)=>some v
 | .agg cs=>match cs.mapM (fun| .lf (.val v)=>some v|_=>none)with|some l=>some (.agg l.toArray)|none=>none
 | .fn f [] []=>some (.func f #[] #[])
 |_=>none
theorem Yx{w:World}{L:Nat->Prop}{ρ:Pl}:∀(cs:List AV)(vs l:List Value),cs.length=vs.length->(∀(i:Nat)(x:AV)(u:Value),cs[i]?=some x->vs[i]?=some u->RelV w L ρ x u)->cs.mapM (fun| .lf (.val v)=>some v|_=>none)=some l->vs=l
 |[],[],l,_,_,h=>by simp at h;exact h.symm
 |x::cs,u::vs,l,hl,hr,h=>by
  rw[a8f]at h
  have h0:=hr 0 x u rfl rfl
  cases x with
  |lf y=>
   cases y with
   |val z=>
    have:=h0.val_eq
    subst this
    simp only[Option.bind_eq_bind,a1v,Option.pure_def]at h
    cases e:cs.mapM (fun|AV.lf (.val v)=>some v|_=>none)with
    |none=>rw[e]at h;cases h
    |some l'=>
     rw[e]at h
     simp only[a1v,a0h]at h
     subst h
     rw[Yx cs vs l' (by simpa using hl) (fun i x u h1 h2=>hr (i+1) x u (by simpa using h1) (by simpa using h2)) e]
   |_=>simp at h
  |_=>simp at h
 |[],_::_,l,hl,_,_=>by simp at hl
 |_::_,[],l,hl,_,_=>by simp at hl
theorem RelV.flat{w:World}{L:Nat->Prop}{ρ:Pl}{x:AV}{u v:Value}(h:RelV w L ρ x v)(hf:x.flat=some u):v=u:=by
 cases x with
 |lf y=>
  cases y with
  |val z=>simp only[AV.flat,a0h]at hf;subst hf;exact h.val_eq
  |sl rows=>cases hf
  |fn f caps=>cases hf
 |agg cs=>
  obtain⟨vs,rfl,hl,hr⟩:=h.agg_out
  simp only[AV.flat]at hf
  split at hf
  ·rename_i l hm
   simp only[a0h]at hf
   subst hf
   rw[Yx cs vs l hl hr hm]
  ·cases hf
 |fn f fs cs=>
  cases fs with
  |cons _ _=>cases hf
  |nil=>
   cases cs with
   |cons _ _=>cases hf
   |nil=>
    obtain⟨us,vs,rfl,h1,h2,_⟩:=h.fn_out
    simp only[AV.flat,a0h]at hf
    subst hf
    simp only[a0m]at h1 h2
    rw[a0z h1.symm,a0z h2.symm]
 |_=>cases hf
theorem OpV.move{x:Operand}{y:AV}(ho:o.op=.move x)(hx:ev x=some y):OpV P o ev Hf y none:=OpV.mk fun L w ρ η hη _=>
 ⟨η x,by simp[execOp,ho],hη x (by simp[ho,Op.operands]) y hx⟩
theorem OpV.assign{x:Operand}{y:AV}(ho:o.op=.assign x)(hx:ev x=some y):OpV P o ev Hf y none:=OpV.mk fun L w ρ η hη _=>
 ⟨η x,by simp[execOp,ho],hη x (by simp[ho,Op.operands]) y hx⟩
theorem OpV.pickT{c x z:Operand}{y:AV}(ho:o.op=.pick c x z)(hc:ev c=some (.val (.bool true)))(hx:ev x=some y):OpV P o ev Hf y none:=OpV.mk fun L w ρ η hη _=>
 ⟨η x,by have:=(hη c (by simp[ho,Op.operands]) _ hc).val_eq;simp[execOp,ho,this,asBool],hη x (by simp[ho,Op.operands]) y hx⟩
theorem OpV.pickF{c x z:Operand}{y:AV}(ho:o.op=.pick c x z)(hc:ev c=some (.val (.bool false)))(hx:ev z=some y):OpV P o ev Hf y none:=OpV.mk fun L w ρ η hη _=>
 ⟨η z,by have:=(hη c (by simp[ho,Op.operands]) _ hc).val_eq;simp[execOp,ho,this,asBool],hη z (by simp[ho,Op.operands]) y hx⟩
def Qy(op:BinOp)(k:IntKind)(a b:Int):Option Value:=
 match op with
 | .add=>some (.int k (k.wrap (a+b)))
 | .sub=>some (.int k (k.wrap (a-b)))
 | .mul=>some (.int k (k.wrap (a*b)))
 | .eql=>some (.bool (a==b))
 | .neq=>some (.bool (a !=b))
 | .lss=>some (.bool (decide (a<b)))
 | .leq=>some (.bool (decide (a<=b)))
 | .gtr=>some (.bool (decide (a>b)))
 | .geq=>some (.bool (decide (a>=b)))
 |_=>none
theorem p3s{op:BinOp}{t u:TypeId}{x y:Operand}{k:IntKind}{a b:Int}{v:Value}(ho:o.op=.binOp op t x y u)(hx:ev x=some (.val (.int k a)))(hy:ev y=some (.val (.int k b)))(hv:Qy op k a b=some v):OpV P o ev Hf (.val v) none:=OpV.mk fun L w ρ η hη _=>by
 have h1:=(hη x (by simp[ho,Op.operands]) _ hx).val_eq
 have h2:=(hη y (by simp[ho,Op.operands]) _ hy).val_eq
 refine⟨v,?_,Ab v⟩
 cases op<;>simp only[Qy,a0h,reduceCtorEq]at hv<;>subst hv<;>simp[execOp,ho,h1,h2,eqGuard,binOp,Op.intArith,Op.intCmp]
def J7(op:BinOp)(a b:Int):Option Int:=match op with| .add=>some (a+b)| .sub=>some (a-b)| .mul=>some (a*b)|_=>none
theorem OpV.arith{op:BinOp}{t u:TypeId}{x y:Operand}{a b c:Int}(ho:o.op=.binOp op t x y u)(hx:ev x=some (.val (.int .i64 a)))(hy:ev y=some (.val (.int .i64 b)))
  (hc:J7 op a b=some c) (h0: -9223372036854775808<=c) (h1:c<=9223372036854775807):OpV P o ev Hf (.val (.int .i64 c)) none:=by
 have hw:IntKind.i64.wrap c=c:=by
  simp[IntKind.wrap,IntKind.signed,IntKind.bits]
  omega
 cases op<;>simp only[J7,reduceCtorEq,a0h]at hc<;>subst hc<;>exact p3s ho hx hy (by simp only[Qy];rw[hw])
theorem p5c{t:TypeId}{x:Operand}{b:Bool}(ho:o.op=.unOp .not t x)(hx:ev x=some (.val (.bool b))):OpV P o ev Hf (.val (.bool !b)) none:=OpV.mk fun L w ρ η hη _=>by
 have h1:=(hη x (by simp[ho,Op.operands]) _ hx).val_eq
 exact⟨_,by simp[execOp,ho,h1,Op.unary],Ab _⟩
theorem OpV.neg{t:TypeId}{x:Operand}{a:Int}(ho:o.op=.unOp .neg t x)(hx:ev x=some (.val (.int .i64 a)))(h0: -9223372036854775808<a)(h1:a<=9223372036854775807):OpV P o ev Hf (.val (.int .i64 (-a))) none:=OpV.mk fun L w ρ η hη _=>by
 have h2:=(hη x (by simp[ho,Op.operands]) _ hx).val_eq
 have hw:IntKind.i64.wrap (-a)= -a:=by
  simp[IntKind.wrap,IntKind.signed,IntKind.bits]
  omega
 exact⟨_,by simp[execOp,ho,h2,Op.unary,Op.intArith,hw],Ab _⟩
theorem OpV.strEq{t u:TypeId}{x y:Operand}{s r:ByteArray}(ho:o.op=.binOp .eql t x y u)(hx:ev x=some (.val (.string s)))(hy:ev y=some (.val (.string r))):OpV P o ev Hf (.val (.bool (s.toList==r.toList))) none:=OpV.mk fun L w ρ η hη _=>by
 have h1:=(hη x (by simp[ho,Op.operands]) _ hx).val_eq
 have h2:=(hη y (by simp[ho,Op.operands]) _ hy).val_eq
 exact⟨_,by simp[execOp,ho,h1,h2,eqGuard,binOp,Op.stringOp],Ab _⟩
theorem OpV.strNe{t u:TypeId}{x y:Operand}{s r:ByteArray}(ho:o.op=.binOp .neq t x y u)(hx:ev x=some (.val (.string s)))(hy:ev y=some (.val (.string r))):OpV P o ev Hf (.val (.bool !(s.toList==r.toList))) none:=OpV.mk fun L w ρ η hη _=>by
 have h1:=(hη x (by simp[ho,Op.operands]) _ hx).val_eq
 have h2:=(hη y (by simp[ho,Op.operands]) _ hy).val_eq
 exact⟨_,by simp[execOp,ho,h1,h2,eqGuard,binOp,Op.stringOp],Ab _⟩
theorem OpV.extract{x:Operand}{i:Nat}{cs:List AV}{y:AV}(ho:o.op=.extract x i)(hx:ev x=some (.tup cs))(hy:cs[i]?=some y):OpV P o ev Hf y none:=OpV.mk fun L w ρ η hη _=>by
 obtain⟨vs,h1,hl,hr⟩:=(hη x (by simp[ho,Op.operands]) _ hx).tup_out
 have hi:i<vs.length:=by rw[<-hl];exact(a0f.1 hy).1
 refine⟨vs[i],?_,hr i y _ hy (a0b hi)⟩
 simp[execOp,ho,h1,Instr.extract,hi]

/-! ### Addresses, loads -/
theorem N4{t:TypeId}{d:TypeDesc}(hu:P.underlying t=some d)(w:World):(isAgg t).run P w=.ok d.isRow w:=by
 unfold isAgg
 rw[a0t,run_underlying hu w]
 cases d<;>simp[TypeDesc.isRow]
theorem Ax{t:TypeId}{n:Nat}(hi:(P.info? t).map (·.size)=some n)(w:World):(sizeOf t).run P w=.ok n w:=by
 cases hq:P.info? t with
 |none=>simp[hq]at hi
 |some i=>simp[hq]at hi;simp[sizeOf,typeInfo,hq,hi]
theorem Hq{t:TypeId}{d:TypeDesc}(hu:P.underlying t=some d)(hd:d.isRow=false){w:World}{a:Addr}{v:Value}(hc:w.cell? a=some v):(loadVar t a).run P w=.ok v w:=by
 simp[loadVar,N4 hu,hd,hc]
theorem Tw{ad:Addr}(h:ad.spot=none):ad=⟨ad.block,ad.off,none⟩:=by cases ad;simp_all
theorem OpV.loadR{t:TypeId}{x:Operand}{c:Lf}{cs:List Lf}{d:TypeDesc}(ho:o.op=.load t x)(hx:ev x=some (.rop (c::cs)))(hu:P.underlying t=some d)(hd:d.isRow=false):OpV P o ev Hf (.lf c) none:=OpV.mk fun L w ρ η hη _=>by
 obtain⟨ad,V,h1,hs,h2,h3⟩:=(hη x (by simp[ho,Op.operands]) _ hx).rop_out
 have h4:=(h2 0 c rfl).2
 rw[a3b,<-Tw hs]at h4
 exact⟨V 0,by simp[execOp,ho,h1,Instr.loadAt,Instr.sureAddr,Hq hu hd h4],.lf _ _ (h3 0 c rfl)⟩
theorem OpV.loadRA{t:TypeId}{x:Operand}{cs:List Lf}{n:Nat}{d:TypeDesc}(ho:o.op=.load t x)(hx:ev x=some (.rop cs))(hu:P.underlying t=some d)(hd:d.isRow=true)(hi:(P.info? t).map (·.size)=some n)(hn:Nat.ble n cs.length=true):OpV P o ev Hf (.agg ((cs.take n).map .lf)) none:=OpV.mk fun L w ρ η hη _=>by
 obtain⟨ad,V,h1,hs,h2,h3⟩:=(hη x (by simp[ho,Op.operands]) _ hx).rop_out
 have hn':=a0c hn
 have hl:((List.range n).map V).length=n:=by simp
 have hrange:w.rangeAt ad.block ad.off ((List.range n).map V):=fun j v hj=>by
  have hj':j<n:=by
   rcases a0y j n with h|h
   ·exact h
   ·rw[a0v (by rw[hl];exact h)]at hj;cases hj
  have hc:cs[j]?=some cs[j]:=a0b (by omega)
  have:=(h2 j _ hc).2
  simp[hj']at hj
  rw[<-hj];exact this
 have hrun:=run_loadAt_mid (P:=P) w ad.block ad.off t _ d hrange hu hd (by rw[hl];exact hi)
 rw[Tw hs]at h1
 refine⟨_,by simp only[execOp,ho,h1,a0t,hrun,a0o,a1m],.agg _ ((List.range n).map V) (by simp;omega) fun i y v hy hv=>?_⟩
 rw[a0d]at hy hv
 rcases a0y i n with hi'|hi'
 ·rw[a1o hi']at hy
  have hc:cs[i]?=some cs[i]:=a0b (by omega)
  rw[hc]at hy
  simp at hy
  simp[hi']at hv
  subst hy hv
  exact .lf _ _ (h3 i _ hc)
 ·rw[a0v (by simp;omega)]at hy;cases hy
theorem Bi{w:World}{k o j:Nat}{c:Array Value}{e:TypeId}{fr:Nat×Nat}{v:Value}(h:w.heap[k]?=some (.cells c e fr))(hj:c[o+j]?=some v):w.cell? ⟨k,o+j,none⟩=some v:=by
 simp[World.cell?,h,hj]
theorem OpV.loadP{t:TypeId}{x:Operand}{b off:Nat}{cells:List AV}{c:AV}{d:TypeDesc}(ho:o.op=.load t x)(hx:ev x=some (.ptr b off))(hb:Hf b=.live cells)(hc:cells[off]?=some c)(hu:P.underlying t=some d)(hd:d.isRow=false):OpV P o ev Hf c none:=OpV.mk fun L w ρ η hη hH=>by
 obtain⟨k,o',arr,e,lo,hi,g1,g2,g3,g4⟩:=hH b cells hb
 have h1:=(hη x (by simp[ho,Op.operands]) _ hx).ptr_out k o' g1
 obtain⟨v,g5,g6⟩:=g4 off c hc
 exact⟨v,by simp[execOp,ho,h1,Instr.loadAt,Instr.sureAddr,Hq hu hd (Bi g2 g5)],g6⟩
theorem OpV.loadPA{t:TypeId}{x:Operand}{b off n:Nat}{cells:List AV}{d:TypeDesc}(ho:o.op=.load t x)(hx:ev x=some (.ptr b off))(hb:Hf b=.live cells)(hu:P.underlying t=some d)(hd:d.isRow=true)(hi:(P.info? t).map (·.size)=some n)(hn:Nat.ble (off+n) cells.length=true):OpV P o ev Hf (.agg ((cells.drop off).take n)) none:=OpV.mk fun L w ρ η hη hH=>by
 obtain⟨k,o',arr,e,lo,hi',g1,g2,g3,g4⟩:=hH b cells hb
 have h1:=(hη x (by simp[ho,Op.operands]) _ hx).ptr_out k o' g1
 have hn':=a0c hn
 have hex:∀j,j<n->∃v,arr[o'+(off+j)]?=some v:=fun j hj=>by
  obtain⟨v,h,_⟩:=g4 (off+j) _ (a0b (by omega))
  exact⟨v,h⟩
 let vs:List Value:=(List.range n).map fun j=>arr.getD (o'+(off+j)) undef
 have hl:vs.length=n:=by simp[vs]
 have hvj:∀j (hj:j<n),vs[j]?=arr[o'+(off+j)]?:=fun j hj=>by
  obtain⟨v,g5⟩:=hex j hj
  simp[vs,hj,a0r,g5]
 have hrange:w.rangeAt k (o'+off) vs:=fun j v hj=>by
  have hj':j<n:=by
   rcases a0y j n with h|h
   ·exact h
   ·rw[a0v (by rw[hl];exact h)]at hj;cases hj
  rw[hvj j hj']at hj
  rw[a1t]
  exact Bi g2 hj
 have hrun:=run_loadAt_mid (P:=P) w k (o'+off) t vs d hrange hu hd (by rw[hl];exact hi)
 refine⟨_,by simp only[execOp,ho,h1,a0t,hrun,a0o,a1m],.agg _ vs (by rw[hl];simp;omega) fun i y v hy hv=>?_⟩
 rcases a0y i n with hi''|hi''
 ·rw[a1o hi'',a2r]at hy
  obtain⟨u,g5,g6⟩:=g4 _ _ hy
  rw[hvj i hi'',g5]at hv
  injection hv with hv
  subst hv
  exact g6
 ·rw[a0v (by simp;omega)]at hy;cases hy
theorem Bf{ad:Addr}(h:ad.spot=none)(n:Nat):ad.add n=⟨ad.block,ad.off+n,none⟩:=by
 unfold Addr.add
 split
 ·subst_vars;rw[a3b];exact Tw h
 ·cases ad;simp_all
theorem A2w{w:World}{L:Nat->Prop}{ρ:Pl}{cs:List Lf}{ad:Addr}{V:Nat->Value}(hs:ad.spot=none)(h2:∀(j:Nat)(x:Lf),cs[j]?=some x->¬Fb L ρ ad.block/\w.cell? ⟨ad.block,ad.off+j,none⟩=some (V j))(h3:∀(j:Nat)(x:Lf),cs[j]?=some x->RelL w (Fb L ρ) x (V j))(n:Nat):RelV w L ρ (.rop (cs.drop n)) (.pointer (some ⟨ad.block,ad.off+n,none⟩)):=by
 refine .rop _ _ (fun j=>V (n+j)) rfl (fun j x hj=>?_) fun j x hj=>?_
 ·rw[a2r]at hj
  have:=h2 _ _ hj
  rw[<-a1t]at this
  exact this
 ·rw[a2r]at hj
  exact h3 _ _ hj
theorem Kh{t:TypeId}{fs:Array Field}{f:Field}{i n:Nat}(hu:P.underlying t=some (.struct fs))(hf:fs[i]?=some f)(hi:(P.info? f.type).map (·.size)=some n)(hn:Nat.beq n 0=false)(w:World)(ad:Addr):(Instr.fieldAt t (.pointer (some ad)) i).run P w=.ok (.pointer (some (ad.add f.offset))) w:=by
 have:n≠0:=fun h=>by subst h;cases hn
 simp[Instr.fieldAt,run_underlying hu,hf,Instr.sureAddr,fieldPlace,Ax hi,this]
theorem OpV.fieldR{t:TypeId}{x:Operand}{i n:Nat}{cs:List Lf}{fs:Array Field}{f:Field}(ho:o.op=.fieldAddr t x i)(hx:ev x=some (.rop cs))(hu:P.underlying t=some (.struct fs))(hf:fs[i]?=some f)(hi:(P.info? f.type).map (·.size)=some n)(hn:Nat.beq n 0=false):OpV P o ev Hf (.rop (cs.drop f.offset)) none:=OpV.mk fun L w ρ η hη _=>by
 obtain⟨ad,V,h1,hs,h2,h3⟩:=(hη x (by simp[ho,Op.operands]) _ hx).rop_out
 refine⟨_,by simp only[execOp,ho,h1,a0t,Kh hu hf hi hn,a0o,a1m];rfl,?_⟩
 rw[Bf hs]
 exact A2w hs h2 h3 _
theorem OpV.fieldP{t:TypeId}{x:Operand}{i n b off:Nat}{cells:List AV}{fs:Array Field}{f:Field}(ho:o.op=.fieldAddr t x i)(hx:ev x=some (.ptr b off))(hb:Hf b=.live cells)(hu:P.underlying t=some (.struct fs))(hf:fs[i]?=some f)(hi:(P.info? f.type).map (·.size)=some n)(hn:Nat.beq n 0=false):OpV P o ev Hf (.ptr b (off+f.offset)) none:=OpV.mk fun L w ρ η hη hH=>by
 obtain⟨k,o',arr,e,lo,hi',g1,g2,g3,g4⟩:=hH b cells hb
 have h1:=(hη x (by simp[ho,Op.operands]) _ hx).ptr_out k o' g1
 refine⟨_,by simp only[execOp,ho,h1,a0t,Kh hu hf hi hn,a0o,a1m];rfl,.ptr _ _ _ (by rw[g1];simp) rfl fun k2 o2 h2=>?_⟩
 rw[g1]at h2
 injection h2 with h2
 injection h2 with h2
 injection h2 with h2 h3
 subst h2 h3
 rw[Bf rfl,a1t]
theorem Ti{t e:TypeId}{n:Nat}(hu:P.underlying t=some (.slice e))(hi:(P.info? e).map (·.size)=some n)(w:World)(ad:Addr)(len cap:Nat)(k:IntKind)(i:Int)(h0:0<=i)(h1:i<len):(Instr.indexAt t (.slice (some ad) len cap) (.int k i)).run P w=.ok (.pointer (some (ad.add (i.toNat*n)))) w:=by
 simp[Instr.indexAt,asIntOf,run_underlying hu,Ax hi,h0,h1]
theorem OpV.indexR{t e:TypeId}{x y:Operand}{n:Nat}{k:IntKind}{i:Int}{rows:List (List Lf)}{row:List Lf}(ho:o.op=.indexAddr t x y)(hx:ev x=some (.sl rows))(hy:ev y=some (.val (.int k i)))(hu:P.underlying t=some (.slice e))(hi:(P.info? e).map (·.size)=some n)(hrow:rows[i.toNat]?=some row)(h0:0<=i)(hn:row.length=n):OpV P o ev Hf (.rop row) none:=OpV.mk fun L w ρ η hη _=>by
 have hv:=(hη y (by simp[ho,Op.operands]) _ hy).val_eq
 have hlt:=(a0f.1 hrow).1
 rcases(hη x (by simp[ho,Op.operands]) _ hx).lf_out.sl_out with⟨rfl,_⟩|⟨ad,cap,V,h1,hs,hc,h2,h3⟩
 ·simp at hlt
 ·refine⟨_,by simp only[execOp,ho,h1,hv,a0t,Ti hu hi w ad rows.length cap k i h0 (by omega),a0o,a1m];rfl,?_⟩
  rw[Bf (hs.resolve_right (by omega))]
  refine .rop _ _ (fun j=>V i.toNat j) rfl (fun j x hj=>?_) fun j x hj=>h3 _ _ _ _ hrow hj
  have:=h2 _ _ _ _ hrow hj
  rw[hn,<-a1t]at this
  exact this
theorem OpV.indexO{t e:TypeId}{x y:Operand}{n b off len:Nat}{k:IntKind}{i:Int}{cells:List AV}(ho:o.op=.indexAddr t x y)(hx:ev x=some (.own b off len n))(hb:Hf b=.live cells)(hy:ev y=some (.val (.int k i)))(hu:P.underlying t=some (.slice e))(hi:(P.info? e).map (·.size)=some n)(h0:0<=i)(h1:i<len):OpV P o ev Hf (.ptr b (off+i.toNat*n)) none:=OpV.mk fun L w ρ η hη hH=>by
 have hv:=(hη y (by simp[ho,Op.operands]) _ hy).val_eq
 obtain⟨k',o',arr,el,lo,hi',g1,g2,g3,g4⟩:=hH b cells hb
 obtain⟨cap,el2,m,h2,hc,_,_⟩:=(hη x (by simp[ho,Op.operands]) _ hx).own_out k' o' g1
 refine⟨_,by simp only[execOp,ho,h2,hv,a0t,Ti hu hi w _ len cap k i h0 h1,a0o,a1m];rfl,.ptr _ _ _ (by rw[g1];simp) rfl fun k2 o2 h2=>?_⟩
 rw[g1]at h2
 injection h2 with h2
 injection h2 with h2
 injection h2 with h2 h3
 subst h2 h3
 rw[Bf rfl,a1t]
theorem OpV.lenR{t u:TypeId}{x:Operand}{e:TypeId}{rows:List (List Lf)}(ho:o.op=.call ⟨.builtin .len, #[x], #[t]⟩)(hx:ev x=some (.sl rows))(hu:P.underlying t=some (.slice e)):OpV P o ev Hf (.val (.int .i64 rows.length)) none:=OpV.mk fun L w ρ η hη _=>by
 obtain⟨a,cap,h1,_⟩:=(hη x (by simp[ho,Op.operands,Call.operands]) _ hx).lf_out.slice
 exact⟨_,by simp[execOp,ho,h1,resolve,invoke,builtin,Builtin.len_,run_underlying hu,goInt],Ab _⟩
theorem OpV.lenO{t:TypeId}{x:Operand}{e:TypeId}{b off len st:Nat}{cells:List AV}(ho:o.op=.call ⟨.builtin .len, #[x], #[t]⟩)(hx:ev x=some (.own b off len st))(hb:Hf b=.live cells)(hu:P.underlying t=some (.slice e)):OpV P o ev Hf (.val (.int .i64 len)) none:=OpV.mk fun L w ρ η hη hH=>by
 obtain⟨k',o',arr,el,lo,hi',g1,g2,g3,g4⟩:=hH b cells hb
 obtain⟨cap,el2,m,h2,hc,_,_⟩:=(hη x (by simp[ho,Op.operands,Call.operands]) _ hx).own_out k' o' g1
 exact⟨_,by simp[execOp,ho,h2,resolve,invoke,builtin,Builtin.len_,run_underlying hu,goInt],Ab _⟩
theorem OpV.lenS{t:TypeId}{x:Operand}{s:ByteArray}(ho:o.op=.call ⟨.builtin .len, #[x], #[t]⟩)(hx:ev x=some (.val (.string s)))(hu:P.underlying t=some .string):OpV P o ev Hf (.val (.int .i64 s.size)) none:=OpV.mk fun L w ρ η hη _=>by
 have h1:=(hη x (by simp[ho,Op.operands,Call.operands]) _ hx).val_eq
 exact⟨_,by simp[execOp,ho,h1,resolve,invoke,builtin,Builtin.len_,run_underlying hu,goInt],Ab _⟩
theorem OpV.byteAt{t:TypeId}{x y:Operand}{s:ByteArray}{k:IntKind}{i:Int}{c:UInt8}(ho:o.op=.index t x y)(hx:ev x=some (.val (.string s)))(hy:ev y=some (.val (.int k i)))(hu:P.underlying t=some .string)(h0:0<=i)(hc:s[i.toNat]?=some c):OpV P o ev Hf (.val (.int .u8 c.toNat)) none:=OpV.mk fun L w ρ η hη _=>by
 have h1:=(hη x (by simp[ho,Op.operands]) _ hx).val_eq
 have h2:=(hη y (by simp[ho,Op.operands]) _ hy).val_eq
 exact⟨_,by simp[execOp,ho,h1,h2,Instr.index,asIntOf,run_underlying hu,h0,hc],Ab _⟩
theorem OpV.nilCheck{x:Operand}{y:AV}(ho:o.op=.nilCheck x)(hx:ev x=some y)(hy:(match y with| .rop _=>true|_=>false)=true):OpV P o ev Hf y none:=OpV.mk fun L w ρ η hη _=>by
 cases y<;>simp only[reduceCtorEq]at hy
 case rop cs=>
  have hh:=hη x (by simp[ho,Op.operands]) _ hx
  obtain⟨ad,V,h1,_⟩:=hh.rop_out
  exact⟨η x,by simp[execOp,ho,h1],hh⟩
theorem OpV.field{t:TypeId}{x:Operand}{i:Nat}{cs:List AV}{c:AV}{fs:Array Field}{f:Field}{d:TypeDesc}(ho:o.op=.field t x i)(hx:ev x=some (.agg cs))(hu:P.underlying t=some (.struct fs))(hf:fs[i]?=some f)(hd:P.underlying f.type=some d)(hr:d.isRow=false)(hc:cs[f.offset]?=some c):OpV P o ev Hf c none:=OpV.mk fun L w ρ η hη _=>by
 obtain⟨vs,h1,hl,hr'⟩:=(hη x (by simp[ho,Op.operands]) _ hx).agg_out
 have hi:f.offset<vs.length:=by rw[<-hl];exact(a0f.1 hc).1
 refine⟨vs[f.offset],?_,hr' _ c _ hc (a0b hi)⟩
 simp[execOp,ho,h1,Instr.field,run_underlying hu,hf,asAgg,part,N4 hd,hr,hi]
theorem OpV.makeFunc{f:Fn}{xs:Array Operand}{ys:List AV}(ho:o.op=.makeFunc f #[] xs)(hx:xs.toList.mapM ev=some ys):OpV P o ev Hf (.fn f [] ys) none:=OpV.mk fun L w ρ η hη _=>by
 refine⟨_,by simp[execOp,ho,Instr.makeFunc];rfl,?_⟩
 have hlen:∀(l:List Operand)(ys:List AV),l.mapM ev=some ys->l.length=ys.length/\∀(i:Nat)(y:AV),ys[i]?=some y->∃x,l[i]?=some x/\ev x=some y:=by
  intro l
  induction l with
  |nil=>intro ys h;simp at h;subst h;simp
  |cons x l ih=>
   intro ys h
   rw[a8f]at h
   cases e:ev x with
   |none=>simp[e]at h
   |some y=>
    cases e2:l.mapM ev with
    |none=>simp[e,e2]at h
    |some ys'=>
     simp[e,e2]at h
     subst h
     obtain⟨g1,g2⟩:=ih ys' e2
     refine⟨by simp[g1],fun i z hz=>?_⟩
     cases i with
     |zero=>simp at hz;subst hz;exact⟨x,rfl,e⟩
     |succ i=>simp at hz;simpa using g2 i z hz
 obtain⟨g1,g2⟩:=hlen _ _ hx
 have hm:(xs.map η)=(xs.toList.map η).toArray:=by apply a6m;rw[a7o]
 rw[hm]
 refine RelV.fn f [] ys [] (xs.toList.map η) rfl (by rw[a0e];exact g1.symm) (fun i x v h=>by cases i<;>cases h) fun i y v hy hv=>?_
 obtain⟨x,h3,h4⟩:=g2 i y hy
 rw[a0d,h3]at hv
 simp at hv
 subst hv
 exact hη x (by rw[ho];exact a5t.2 (.inr (a4p.1 (a0a h3)))) y h4
end
def Enters(P:Program)(f:FuncId):Prop:=∃fn,P.funcs[f]?=some fn/\(fn.name== "runtime.NumGoroutine")=false/\fn.body.isNone=false
theorem Enters.run{P:Program}{f:FuncId}(h:Enters P f)(args:Array Value)(w:World):(callFunc f args).run P w=.ok (.enter f args) w:=by
 obtain⟨fn,h1,h2,h3⟩:=h
 unfold callFunc
 rw[a0t,run_program]
 simp only[a0o,h1,h2,h3,a5b,if_false,a1m]
structure Fn0(P:Program)(f:FuncId)(args:List AV)(r:AV):Prop where
 ent:Enters P f
 run:∀(L:Nat->Prop)(w:World)(vs:List Value),Glob w->(∀k,L k->k<w.heap.size)->args.length=vs.length->(∀(i:Nat)(x:AV)(v:Value),args[i]?=some x->vs[i]?=some v->RelV w L Ba x v)->
  Calls P f vs.toArray w fun e w'=>∃v,e=.returned v/\RelV w' L Ba r v/\Below w.heap.size w w'

def evs(ev:Operand->Option AV):List Operand->Option (List AV)
 |[]=>some []
 |x::r=>match ev x with
  |none=>none
  |some y=>match evs ev r with
   |none=>none
   |some ys=>some (y::ys)
theorem Ff{ev:Operand->Option AV}:∀(l:List Operand)(ys:List AV),evs ev l=some ys->l.length=ys.length/\∀(i:Nat)(y:AV),ys[i]?=some y->∃x,l[i]?=some x/\ev x=some y
 |[],ys,h=>by simp only[evs,a0h]at h;subst h;simp
 |x::r,ys,h=>by
  simp only[evs]at h
  cases e:ev x with
  |none=>simp[e]at h
  |some y=>
   cases e2:evs ev r with
   |none=>simp[e,e2]at h
   |some ys'=>
    simp only[e,e2,a0h]at h
    subst h
    obtain⟨g1,g2⟩:=Ff r ys' e2
    refine⟨by simp[g1],fun i z hz=>?_⟩
    cases i with
    |zero=>simp at hz;subst hz;exact⟨x,rfl,e⟩
    |succ i=>simp at hz;simpa using g2 i z hz
theorem RelSt.fb_lt{E:Env}{st:St}{a:Act}{w:World}{ρ:Pl}(h:RelSt E st a w ρ)(k:Nat)(hk:Fb E.L ρ k):k<w.heap.size:=by
 rcases hk with hk|⟨b,o,hk⟩
 ·exact a5g (h.lim k hk) h.fr.size
 ·exact h.H.lt hk

section
variable {P:Program}{N:Nat}{st:St}{ops:Array Oper}{K:St->Prop}{o:Oper}{ev:Operand->Option AV}{Hf:Nat->HB}
theorem OpV.call{f:FuncId}{xs:Array Operand}{ts:Array TypeId}{ys:List AV}{r:AV}(hp:Fn0 P f ys r)(ho:o.op=.call ⟨.value (.func f),xs,ts⟩)(hx:evs ev xs.toList=some ys)(ht:ys.all AV.tree=true):OpV P o ev Hf r none:=fun E st a w ρ K Q hr he hH hn hK=>by
 obtain⟨g1,g2⟩:=Ff _ _ hx
 have hrun:(execOp a.eval o).run P w=.ok (.enter f (xs.toList.map a.eval).toArray) w:=by
  have:(execOp a.eval o).run P w=(callFunc f (#[]++xs.map a.eval++ #[])).run P w:=by simp[execOp,ho,resolve,Act.eval,Deferred.ofValue,invoke]
  rw[this,hp.1.run]
  simp only[a5o,a5a,true_and,and_true]
  apply a6m
  simp
 unfold Oper.wp
 rw[hrun]
 refine(hp.2 (Fb E.L ρ) w (xs.toList.map a.eval) hr.glob hr.fb_lt (by rw[a0e];exact g1.symm) fun i x v hx hv=>?_).mono ?_
 ·obtain⟨z,h3,h4⟩:=g2 i x hx
  rw[a0d,h3]at hv
  simp at hv
  subst hv
  refine(hr.ev (he z ?_ x h4)).bare (a0l.1 ht x (a0a hx))
  rw[ho]
  exact a5t.2 (.inr (a4p.1 (a0a h3)))
 ·rintro e w' ⟨v,rfl,hv,hb⟩
  exact hK w' ρ v (hr.below hb) hv.dress

/-! ### Into a function, and out of it -/
def Ak:Nat->List AV->Tm
 |_,[]=>[]
 |n,x::r=>(n,x)::Ak (n+1) r
theorem Is:∀(l:List AV)(n t:Nat)(x:AV),(Ak n l).get t=some x->n<=t/\l[t-n]?=some x
 |[],n,t,x,h=>by cases h
 |y::r,n,t,x,h=>by
  rw[Ak,p0w]at h
  by_cases e:n=t
  ·subst e
   rw[if_pos rfl]at h
   simpa using h
  ·rw[if_neg e]at h
   obtain⟨h1,h2⟩:=Is r (n+1) t x h
   refine⟨by omega,?_⟩
   rw[show t-n=(t-(n+1))+1 by omega]
   simpa using h2
inductive Res(P:Program)(st:St):ResultVar->AV->Prop
 |tmp {t:Nat} {x:AV} (h:st.tm.get t=some x):Res P st (.tmp t) x
 |cell {t b off:Nat} {ty:TypeId} {cells:List AV} {x:AV} {d:TypeDesc} (h:st.tm.get t=some (.ptr b off)) (hb:st.H.at b=.live cells) (hx:cells[off]?=some x) (hu:P.underlying ty=some d) (hd:d.isRow=false):Res P st (.cell t ty) x
 |cells {t b off n:Nat} {ty:TypeId} {cells:List AV} {d:TypeDesc} (h:st.tm.get t=some (.ptr b off)) (hb:st.H.at b=.live cells) (hu:P.underlying ty=some d) (hd:d.isRow=true) (hi:(P.info? ty).map (·.size)=some n) (hn:Nat.ble (off+n) cells.length=true):Res P st (.cell t ty) (.agg ((cells.drop off).take n))
inductive ResL(P:Program)(st:St):List ResultVar->List AV->Prop
 |nil:ResL P st [] []
 |cons {v:ResultVar} {x:AV} {l:List ResultVar} {xs:List AV} (h:Res P st v x) (r:ResL P st l xs):ResL P st (v::l) (x::xs)
def N7:List AV->AV
 |[x]=>x
 |xs=>.tup xs
def Sj(vs:List Value):Value:=match vs with|[v]=>v|vs=>.tuple vs.toArray

def OwnRows(cells:List AV)(off len st:Nat)(rows:List (List Lf)):Prop:=
 rows.length=len/\∀(i:Nat)(row:List Lf),rows[i]?=some row->row.length=st/\∀(j:Nat)(x:Lf),row[j]?=some x->cells[off+(i*st+j)]?=some (.lf x)
inductive CellO(H:AH):AV->Lf->Prop
 |lf (x:Lf):CellO H (.lf x) x
 |fn {f:Fn} {ys:List AV} {caps:List (List Lf)} (hl:ys.length=caps.length) (h:∀(i:Nat)(cs:List Lf),caps[i]?=some cs->∃b off cells,ys[i]?=some (.ptr b off)/\H.at b=.live cells/\∀(j:Nat)(x:Lf),cs[j]?=some x->cells[off+j]?=some (.lf x)):CellO H (.fn f [] ys) (.fn f caps)
inductive Out1(H:AH):AV->AV->Prop
 |lf (x:Lf):Out1 H (.lf x) (.lf x)
 |rop (cs:List Lf):Out1 H (.rop cs) (.rop cs)
 |own {b off len st:Nat} {cells:List AV} {rows:List (List Lf)} (hb:H.at b=.live cells) (hr:OwnRows cells off len st rows):Out1 H (.own b off len st) (.sl rows)
 |ptr {b off:Nat} {cells:List AV} {cs:List Lf} (hb:H.at b=.live cells) (hr:∀(j:Nat)(x:Lf),cs[j]?=some x->cells[off+j]?=some (.lf x)):Out1 H (.ptr b off) (.rop cs)
 |ptrF {b off:Nat} {cells:List AV} {cs:List Lf} (hb:H.at b=.live cells) (hr:∀(j:Nat)(x:Lf),cs[j]?=some x->∃y,cells[off+j]?=some y/\CellO H y x):Out1 H (.ptr b off) (.rop cs)
theorem CellO.mono{H H':AH}(hs:∀b cs,H.at b=.live cs->H'.at b=.live cs){x:AV}{y:Lf}(h:CellO H x y):CellO H' x y:=by
 cases h with
 |lf x=>exact .lf _
 |fn hl h=>
  refine .fn hl fun i cs hi=>?_
  obtain⟨b,off,cells,h1,h2,h3⟩:=h i cs hi
  exact⟨b,off,cells,h1,hs _ _ h2,h3⟩
theorem Out1.ptr0{H:AH}{b:Nat}{cs:List Lf}(hb:H.at b=.live (cs.map .lf)):Out1 H (.ptr b 0) (.rop cs):=.ptr hb fun j x hj=>by rw[a1n,a0d,hj];rfl
inductive OutL(H:AH):List AV->List AV->Prop
 |nil:OutL H [] []
 |cons {x y:AV} {xs ys:List AV} (h:Out1 H x y) (r:OutL H xs ys):OutL H (x::xs) (y::ys)
inductive Out2(H:AH):AV->AV->Prop
 |one {x y:AV} (h:Out1 H x y):Out2 H x y
 |agg {xs ys:List AV} (h:OutL H xs ys):Out2 H (.agg xs) (.agg ys)
 |fn {f:Fn} {xs ys:List AV} (h:OutL H xs ys):Out2 H (.fn f [] xs) (.fn f [] ys)
inductive Out2L(H:AH):List AV->List AV->Prop
 |nil:Out2L H [] []
 |cons {x y:AV} {xs ys:List AV} (h:Out2 H x y) (r:Out2L H xs ys):Out2L H (x::xs) (y::ys)
inductive Out(H:AH):AV->AV->Prop
 |one {x y:AV} (h:Out2 H x y):Out H x y
 |tup {xs ys:List AV} (h:Out2L H xs ys):Out H (.tup xs) (.tup ys)
theorem Out1.mono{H H':AH}(hs:∀b cs,H.at b=.live cs->H'.at b=.live cs){x y:AV}(h:Out1 H x y):Out1 H' x y:=by
 cases h with
 |lf x=>exact .lf x
 |rop cs=>exact .rop cs
 |own hb hr=>exact .own (hs _ _ hb) hr
 |ptr hb hr=>exact .ptr (hs _ _ hb) hr
 |ptrF hb hr=>
  refine .ptrF (hs _ _ hb) fun j x hj=>?_
  obtain⟨y,h1,h2⟩:=hr j x hj
  exact⟨y,h1,h2.mono hs⟩
theorem OutL.mono{H H':AH}(hs:∀b cs,H.at b=.live cs->H'.at b=.live cs){xs ys:List AV}(h:OutL H xs ys):OutL H' xs ys:=by
 induction h with
 |nil=>exact .nil
 |cons h r ih=>exact .cons (h.mono hs) ih
theorem Out2.mono{H H':AH}(hs:∀b cs,H.at b=.live cs->H'.at b=.live cs){x y:AV}(h:Out2 H x y):Out2 H' x y:=by
 cases h with
 |one h=>exact .one (h.mono hs)
 |agg h=>exact .agg (h.mono hs)
 |fn h=>exact .fn (h.mono hs)
theorem RelL.less{w:World}{F F':Nat->Prop}(h:∀k,F' k->F k){x:Lf}{v:Value}(hx:RelL w F x v):RelL w F' x v:=
 hx.later fun k _ _ hk hc=>⟨hc,fun hf=>hk (h k hf)⟩
theorem Out1.rel{w:World}{L:Nat->Prop}{ρ:Pl}{H:AH}{x y:AV}(h:Out1 H x y)(hH:RelH w L ρ H){v:Value}(hv:RelV w L ρ x v):RelV w L Ba y v:=by
 have key:∀{x:Lf}{v:Value},RelL w (Fb L ρ) x v->RelL w (Fb L Ba) x v:=fun h=>h.less fun k hk=>.inl ((F2 L k).1 hk)
 cases h with
 |lf x=>exact .lf _ _ (key hv.lf_out)
 |rop cs=>
  obtain⟨ad,V,rfl,hs,h1,h2⟩:=hv.rop_out
  exact .rop cs ad V hs (fun j x hj=>⟨fun hf=>(h1 j x hj).1 (.inl ((F2 L _).1 hf)),(h1 j x hj).2⟩) fun j x hj=>key (h2 j x hj)
 | @own b off len st cells rows hb hr=>
  obtain⟨k,o,c,e,lo,hi,g1,g2,g3,g4,g5,g6⟩:=hH.live b cells hb
  obtain⟨cap,e2,n,rfl,hc,_⟩:=hv.own_out k o g1
  refine .lf _ _ ?_
  obtain⟨rfl,hr⟩:=hr
  refine .sl rows ⟨k,o+off,none⟩ cap (fun i j=>c.getD (o+(off+(i*st+j))) undef) (.inl rfl) hc (fun i row j x h1 h2=>?_) fun i row j x h1 h2=>?_
  ·obtain⟨hl,hx⟩:=hr i row h1
   obtain⟨v,g7,g8⟩:=g6 _ _ (hx j x h2)
   refine⟨fun hf=>g5 ((F2 L k).1 hf),?_⟩
   simp only[hl]
   rw[a1t,Bi g2 g7]
   simp[a0r,g7]
  ·obtain⟨hl,hx⟩:=hr i row h1
   obtain⟨v,g7,g8⟩:=g6 _ _ (hx j x h2)
   simp only[a0r,g7,a1a]
   exact key g8.lf_out
 | @ptr b off cells cs hb hr=>
  obtain⟨k,o,c,e,lo,hi,g1,g2,g3,g4,g5,g6⟩:=hH.live b cells hb
  obtain rfl:=hv.ptr_out k o g1
  refine .rop cs _ (fun j=>c.getD (o+(off+j)) undef) rfl (fun j x hj=>?_) fun j x hj=>?_
  ·obtain⟨v,g7,g8⟩:=g6 _ _ (hr j x hj)
   refine⟨fun hf=>g5 ((F2 L k).1 hf),?_⟩
   rw[a1t,Bi g2 g7]
   simp[a0r,g7]
  ·obtain⟨v,g7,g8⟩:=g6 _ _ (hr j x hj)
   simp only[a0r,g7,a1a]
   exact key g8.lf_out
 | @ptrF b off cells cs hb hr=>
  obtain⟨k,o,c,e,lo,hi,g1,g2,g3,g4,g5,g6⟩:=hH.live b cells hb
  obtain rfl:=hv.ptr_out k o g1
  refine .rop cs _ (fun j=>c.getD (o+(off+j)) undef) rfl (fun j x hj=>?_) fun j x hj=>?_
  ·obtain⟨y,hy,_⟩:=hr j x hj
   obtain⟨v,g7,g8⟩:=g6 _ _ hy
   refine⟨fun hf=>g5 ((F2 L k).1 hf),?_⟩
   rw[a1t,Bi g2 g7]
   simp[a0r,g7]
  ·obtain⟨y,hy,hyx⟩:=hr j x hj
   obtain⟨v,g7,g8⟩:=g6 _ _ hy
   simp only[a0r,g7,a1a]
   cases hyx with
   |lf x=>exact key g8.lf_out
   | @fn f ys caps hl hcap=>
    obtain⟨us,vs,rfl,f1,f2,f3,f4⟩:=g8.fn_out
    obtain rfl:us=[]:=a0z f1.symm
    have pick:∀(i:Nat)(cs:List Lf),caps[i]?=some cs->∃(k2 o2:Nat)(c2:Array Value)(e2:TypeId)(lo2 hi2:Nat)(cells2:List AV)(off2:Nat),vs[i]?=some (.pointer (some ⟨k2,o2+off2,none⟩))/\w.heap[k2]?=some (.cells c2 e2 (lo2,hi2))/\¬L k2/\∀(j:Nat)(x:Lf),cs[j]?=some x->∃u,c2[o2+(off2+j)]?=some u/\RelL w (Fb L ρ) x u:=fun i cs hi=>by
     obtain⟨b2,off2,cells2,q1,q2,q3⟩:=hcap i cs hi
     obtain⟨k2,o2,c2,e2,lo2,hi2,p1,p2,p3,p4,p5,p6⟩:=hH.live b2 cells2 q2
     have hlt:i<vs.length:=by rw[<-f2];exact(a0f.1 q1).1
     have hrel:=f4 i _ _ q1 (a0b hlt)
     refine⟨k2,o2,c2,e2,lo2,hi2,cells2,off2,by rw[a0b hlt,hrel.ptr_out k2 o2 p1],p2,p5,fun j x hj=>?_⟩
     obtain⟨u,r1,r2⟩:=p6 _ _ (q3 j x hj)
     exact⟨u,r1,r2.lf_out⟩
    let ad:Nat->Addr:=fun i=>match vs[i]? with|some (.pointer (some a))=>a|_=>⟨0,0,none⟩
    have hvs:vs=((List.range caps.length).map ad).map fun a=>Value.pointer (some a):=by
     apply a9r
     intro i
     rcases a0y i caps.length with hi|hi
     ·obtain⟨k2,o2,c2,e2,lo2,hi2,cells2,off2,q1,_⟩:=pick i _ (a0b hi)
      rw[a0d,a0d,a2u hi]
      simp[ad,q1]
     ·rw[a0v (by omega),a0v (by simpa using hi)]
    rw[hvs]
    have hadr:∀(i:Nat)(a:Addr),((List.range caps.length).map ad)[i]?=some a->a=ad i:=fun i a ha=>by
     rw[a0d]at ha
     rcases a0y i caps.length with hi|hi
     ·rw[a2u hi]at ha
      simpa using ha.symm
     ·rw[a0v (by simpa using hi)]at ha
      cases ha
    refine .fn f caps ((List.range caps.length).map ad) (fun i j=>(w.cell? ⟨(ad i).block,(ad i).off+j,none⟩).getD undef) (by simp) (fun i a ha=>?_) (fun i cs a j x hi ha hj=>?_) (fun i cs j x hi hj=>?_)
    ·obtain rfl:=hadr i a ha
     rcases a0y i caps.length with hi|hi
     ·obtain⟨k2,o2,c2,e2,lo2,hi2,cells2,off2,q1,_⟩:=pick i _ (a0b hi)
      simp[ad,q1]
     ·rw[a0v (by simpa using hi)]at ha
      cases ha
    ·obtain rfl:=hadr i a ha
     obtain⟨k2,o2,c2,e2,lo2,hi2,cells2,off2,q1,q2,q3,q4⟩:=pick i _ hi
     obtain⟨u,r1,r2⟩:=q4 j x hj
     have ha2:ad i=⟨k2,o2+off2,none⟩:=by simp[ad,q1]
     refine⟨fun hf=>?_,?_⟩
     ·rw[ha2]at hf
      exact q3 ((F2 L _).1 hf)
     ·rw[ha2,a1t,Bi q2 r1]
      rfl
    ·obtain⟨k2,o2,c2,e2,lo2,hi2,cells2,off2,q1,q2,q3,q4⟩:=pick i _ hi
     obtain⟨u,r1,r2⟩:=q4 j x hj
     have ha2:ad i=⟨k2,o2+off2,none⟩:=by simp[ad,q1]
     rw[ha2]
     simp only[a1t,Bi q2 r1,a1a]
     exact key r2
theorem OutL.at{H:AH}:∀{xs ys:List AV},OutL H xs ys->xs.length=ys.length/\∀(i:Nat)(y:AV),ys[i]?=some y->∃x,xs[i]?=some x/\Out1 H x y
 |_,_,.nil=>⟨rfl,fun i y h=>by simp at h⟩
 |_,_,.cons h r=>by
  obtain⟨h1,h2⟩:=r.at
  refine⟨by simp[h1],fun i y hy=>?_⟩
  cases i with
  |zero=>simp at hy;subst hy;exact⟨_,rfl,h⟩
  |succ i=>simpa using h2 i y (by simpa using hy)
theorem Out2L.at{H:AH}:∀{xs ys:List AV},Out2L H xs ys->xs.length=ys.length/\∀(i:Nat)(y:AV),ys[i]?=some y->∃x,xs[i]?=some x/\Out2 H x y
 |_,_,.nil=>⟨rfl,fun i y h=>by simp at h⟩
 |_,_,.cons h r=>by
  obtain⟨h1,h2⟩:=r.at
  refine⟨by simp[h1],fun i y hy=>?_⟩
  cases i with
  |zero=>simp at hy;subst hy;exact⟨_,rfl,h⟩
  |succ i=>simpa using h2 i y (by simpa using hy)
theorem Out2.rel{w:World}{L:Nat->Prop}{ρ:Pl}{H:AH}{x y:AV}(h:Out2 H x y)(hH:RelH w L ρ H){v:Value}(hv:RelV w L ρ x v):RelV w L Ba y v:=by
 cases h with
 |one h=>exact h.rel hH hv
 |agg h=>
  obtain⟨vs,rfl,hl,hr⟩:=hv.agg_out
  obtain⟨h1,h2⟩:=h.at
  refine .agg _ vs (h1▸hl) fun i y v hy hv=>?_
  obtain⟨x,h3,h4⟩:=h2 i y hy
  exact h4.rel hH (hr i x v h3 hv)
 |fn h=>
  obtain⟨us,vs,rfl,hl,hm,hr,hk⟩:=hv.fn_out
  obtain⟨h1,h2⟩:=h.at
  refine .fn _ [] _ us vs hl (h1▸hm) (fun i x v h=>by cases i<;>cases h) fun i y v hy hv=>?_
  obtain⟨x,h3,h4⟩:=h2 i y hy
  exact h4.rel hH (hk i x v h3 hv)
theorem Out.rel{w:World}{L:Nat->Prop}{ρ:Pl}{H:AH}{x y:AV}(h:Out H x y)(hH:RelH w L ρ H){v:Value}(hv:RelV w L ρ x v):RelV w L Ba y v:=by
 cases h with
 |one h=>exact h.rel hH hv
 |tup h=>
  obtain⟨vs,rfl,hl,hr⟩:=hv.tup_out
  obtain⟨h1,h2⟩:=h.at
  refine .tup _ vs (h1▸hl) fun i y v hy hv=>?_
  obtain⟨x,h3,h4⟩:=h2 i y hy
  exact h4.rel hH (hr i x v h3 hv)
def Mk(a:Act):ResultVar->Sem Value
 | .tmp t=>.pure (a.tmps.getD t undef)
 | .cell t ty=>do loadVar ty (<-asAddr (a.tmps.getD t undef))
theorem Res.run{E:Env}{a:Act}{w:World}{ρ:Pl}(hr:RelSt E st a w ρ){v:ResultVar}{x:AV}(h:Res P st v x):
  ∃u,(Mk a v).run P w=.ok u w/\RelV w E.L ρ x u:=by
 cases h with
 |tmp h=>exact⟨_,rfl,(hr.tm _ _ h).2⟩
 | @cell t b off ty cells x d h hb hx hu hd=>
  obtain⟨k,o,c,e,lo,hi,g1,g2,g3,g4,g5,g6⟩:=hr.H.live b cells hb
  have h1:=(hr.tm _ _ h).2.ptr_out k o g1
  obtain⟨u,g7,g8⟩:=g6 off x hx
  exact⟨u,by simp[Mk,h1,asAddr,Hq hu hd (Bi g2 g7)],g8⟩
 | @cells t b off n ty cells d h hb hu hd hi hn=>
  obtain⟨k,o,c,e,lo,hi',g1,g2,g3,g4,g5,g6⟩:=hr.H.live b cells hb
  have h1:=(hr.tm _ _ h).2.ptr_out k o g1
  have hn':=a0c hn
  let vs:List Value:=(List.range n).map fun j=>c.getD (o+(off+j)) undef
  have hl:vs.length=n:=by simp[vs]
  have hvj:∀j (hj:j<n),∃v,vs[j]?=some v/\c[o+(off+j)]?=some v:=fun j hj=>by
   obtain⟨v,g7,_⟩:=g6 (off+j) _ (a0b (by omega))
   exact⟨v,by simp[vs,hj,a0r,g7],g7⟩
  have hrange:w.rangeAt k (o+off) vs:=fun j v hj=>by
   have hj':j<n:=by
    rcases a0y j n with h|h
    ·exact h
    ·rw[a0v (by rw[hl];exact h)]at hj;cases hj
   obtain⟨v',g7,g8⟩:=hvj j hj'
   rw[g7]at hj
   injection hj with hj
   subst hj
   rw[a1t]
   exact Bi g2 g8
  have hrun:=run_loadVar_mid (P:=P) w k (o+off) ty vs d hrange hu hd (by rw[hl];exact hi)
  refine⟨_,by simp only[Mk,h1,asAddr,a0t,a1m,a0o,hrun],.agg _ vs (by rw[hl];simp;omega) fun i y v hy hv=>?_⟩
  rcases a0y i n with hi''|hi''
  ·rw[a1o hi'',a2r]at hy
   obtain⟨u,g7,g8⟩:=g6 _ _ hy
   obtain⟨v',g9,g10⟩:=hvj i hi''
   rw[g9]at hv
   injection hv with hv
   rw[g7]at g10
   injection g10 with g10
   subst hv g10
   exact g8
  ·rw[a0v (by simp;omega)]at hy;cases hy
theorem ResL.run{E:Env}{a:Act}{w:World}{ρ:Pl}(hr:RelSt E st a w ρ):∀{l:List ResultVar}{xs:List AV},ResL P st l xs->
  ∃us,(l.mapM (Mk a)).run P w=.ok us w/\xs.length=us.length/\∀(i:Nat)(x:AV)(u:Value),xs[i]?=some x->us[i]?=some u->RelV w E.L ρ x u
 |_,_,.nil=>⟨[],rfl,rfl,fun i x u h=>by simp at h⟩
 |v::l,x::xs,.cons h r=>by
  obtain⟨u,h1,h2⟩:=h.run hr
  obtain⟨us,h3,h4,h5⟩:=ResL.run hr r
  refine⟨u::us,?_,by simp[h4],fun i y z hy hz=>?_⟩
  ·rw[a8f,a0t,h1]
   simp only[a0o,a0t,h3,a1m]
  ·cases i with
   |zero=>simp at hy hz;subst hy hz;exact h2
   |succ i=>exact h5 i y z (by simpa using hy) (by simpa using hz)
theorem Ht{fn:Func}{a:Act}{w:World}{us:List Value}(h:(fn.results.toList.mapM (Mk a)).run P w=.ok us w):(results fn a.tmps).run P w=.ok (Sj us) w:=by
 have h0:(fn.results.mapM (Mk a)).run P w=.ok us.toArray w:=by
  rw[show fn.results=fn.results.toList.toArray by simp,List.mapM_toArray,Sem.run_map,h]
  rfl
 have h1:results fn a.tmps=(fn.results.mapM (Mk a)>>=fun vs=>pure (if h:vs.size=1 then vs[0]else .tuple vs)):=by
  unfold results
  congr 1
 rw[h1,a0t,h0]
 simp only[a0o,a1m]
 match us with
 |[]=>rfl
 |[v]=>rfl
 |v::u::us=>rfl
def Ao(P:Program)(fn:Func)(r:AV)(e:Exit)(st:St):Prop:=(e=.normal\/e=.ret)/\∃xs,ResL P st fn.results.toList xs/\Out st.H (N7 xs) r
theorem Fn0.of{f:FuncId}{fn:Func}{c:Code}{args:List AV}{r:AV}{N:Nat}(hf:P.funcs[f]?=some fn)(hnt:fn.ntmps=N)(hb:fn.body=some c)(hn:(fn.name== "runtime.NumGoroutine")=false)(hN:Nat.ble args.length N=true)
  (h:T P N c ⟨Ak 0 args,[]⟩ (Ao P fn r)):Fn0 P f args r:=by
 subst hnt
 refine⟨⟨fn,hf,hn,by rw[hb];rfl⟩,fun L w vs hG hL hl hv=>?_⟩
 have hN':=a0c hN
 refine calls_of_wp hf hb ?_
 let E:Env:={N:=fn.ntmps,L:=L,O:=fun _=>False,w0:=w,good:=fun w' hf=>hG.below (Fr.below hf)}
 have hsz:(vs.toArray++Array.replicate (fn.ntmps-vs.toArray.size) undef).size=fn.ntmps:=by simp;omega
 have hst:RelSt E ⟨Ak 0 args,[]⟩ {tmps:=vs.toArray++Array.replicate (fn.ntmps-vs.toArray.size) undef,defers:=[]} w Ba:=by
  refine⟨hsz,rfl,fun t x hx=>?_,⟨fun b _=>rfl,(fun b h=>by simp[AH.at]at h),(fun b cs h=>by simp[AH.at]at h),(fun b cs h=>by simp[AH.at]at h),(fun b b' k o o' h=>by cases h),ExtOk.nil _ _ _⟩,Fr.refl _ _,(fun b k o h=>by cases h),hL⟩
  obtain⟨_,hx⟩:=Is _ _ _ _ hx
  rw[a6e]at hx
  have ht:t<args.length:=(a0f.1 hx).1
  refine⟨by show t<fn.ntmps;omega,?_⟩
  have hu:vs[t]?=some (vs[t]'(by omega)):=a0b _
  have:(vs.toArray++Array.replicate (fn.ntmps-vs.toArray.size) undef).getD t undef=vs[t]'(by omega):=by
   rw[a0r,a1r (by simp;omega)]
   simp[hu]
  show RelV w L Ba x ((vs.toArray++Array.replicate (fn.ntmps-vs.toArray.size) undef).getD t undef)
  rw[this]
  exact hv t x _ hx hu
 refine wp_mono (h.out E _ w Ba rfl hst) ?_
 rintro e a' w' ⟨st',ρ',⟨he,xs,hxs,hout⟩,hr'⟩
 obtain⟨us,h1,h2,h3⟩:=hxs.run hr'
 have hres:=Ht (fn:=fn) h1
 have hrel:RelV w' L Ba r (Sj us):=by
  refine hout.rel hr'.H ?_
  match xs,us,h2,h3 with
  |[x],[u],_,h3=>exact h3 0 x u rfl rfl
  |[],[],h2,h3=>exact .tup [] [] rfl (fun i x u h=>by simp at h)
  |x::y::xs,u::v::us,h2,h3=>exact .tup _ (u::v::us) h2 h3
 have hb':Below w.heap.size w w':=Fr.below hr'.fr
 rcases he with rfl|rfl
 ·exact⟨hr'.defers,_,hres,_,rfl,hrel,hb'⟩
 ·exact⟨hr'.defers,_,hres,_,rfl,hrel,hb'⟩

/-! ### Tests -/
theorem T.cond{x y:Code}{c:Operand}{b:Bool}{Q:Exit->St->Prop}(hc:st.ev c=some (.val (.bool b)))(h1:b=true->T P N x st Q)(h2:b=false->T P N y st Q):T P N (.cond c x y) st Q:=⟨fun E a w ρ hE hr=>
 wp_cond_split (hr.ev hc).val_eq (fun hb=>(h1 hb).out E a w ρ hE hr) (fun hb=>(h2 hb).out E a w ρ hE hr)⟩

/-! ### New blocks -/
theorem P8{t:TypeId}{v:Value}(w:World):(newVar t v).run P w=.ok ⟨w.heap.size,0,none⟩ (w.alloc (.cells v.cells t)):=by
 simp[newVar,newRow]
theorem RelV.ptr_one{w:World}{L:Nat->Prop}{ρ:Pl}{b off:Nat}{v:Value}(h:RelV w L ρ (.ptr b off) v):v.oneCell'=true:=by
 generalize e:AV.ptr b off=y at h
 cases h<;>cases e
 assumption
theorem RelV.own_one{w:World}{L:Nat->Prop}{ρ:Pl}{b off len st:Nat}{v:Value}(h:RelV w L ρ (.own b off len st) v):v.oneCell'=true:=by
 generalize e:AV.own b off len st=y at h
 cases h<;>cases e
 assumption
theorem RelV.mp_one{w:World}{L:Nat->Prop}{ρ:Pl}{b:Nat}{v:Value}(h:RelV w L ρ (.mp b) v):v.oneCell'=true:=by
 generalize e:AV.mp b=y at h
 cases h<;>cases e
 assumption
theorem RelV.mp_out{w:World}{L:Nat->Prop}{ρ:Pl}{b:Nat}{v:Value}(h:RelV w L ρ (.mp b) v):∀k o,ρ b=some (some (k,o))->v=.map (some k):=by
 generalize e:AV.mp b=y at h
 cases h<;>cases e
 assumption
def AV.cells:AV->List AV
 | .agg cs=>cs
 |x=>[x]
def AV.boxed:AV->Bool
 | .lf (.val (.agg _))=>false
 |_=>true
theorem RelV.cells{w:World}{L:Nat->Prop}{ρ:Pl}{x:AV}{v:Value}(h:RelV w L ρ x v)(h1:x.boxed=true):x.cells.length=v.cells.size/\∀(j:Nat)(y:AV),x.cells[j]?=some y->∃u,v.cells[j]?=some u/\RelV w L ρ y u:=by
 have one:∀(x:AV)(v:Value),x.cells=[x]->v.cells= #[v]->RelV w L ρ x v->x.cells.length=v.cells.size/\∀(j:Nat)(y:AV),x.cells[j]?=some y->∃u,v.cells[j]?=some u/\RelV w L ρ y u:=fun x v hx hv h=>by
  rw[hx,hv]
  refine⟨rfl,fun j y hj=>?_⟩
  cases j with
  |zero=>simp at hj;subst hj;exact⟨v,rfl,h⟩
  |succ j=>simp at hj
 cases x with
 |agg cs=>
  obtain⟨vs,rfl,hl,hr⟩:=h.agg_out
  refine⟨by simpa[AV.cells,Value.cells]using hl,fun j y hj=>?_⟩
  have hj':j<vs.length:=by rw[<-hl];exact(a0f.1 hj).1
  exact⟨vs[j],by simp[Value.cells,hj'],hr j y _ hj (a0b hj')⟩
 |lf y=>
  cases y with
  |val u=>
   have:=h.val_eq
   subst this
   cases v<;>first|exact one _ _ rfl rfl h|(cases h1;done)
  |sl rows=>
   obtain⟨a,cap,rfl,_⟩:=h.lf_out.slice
   exact one _ _ rfl rfl h
  |fn f caps=>
   obtain⟨ads,V,rfl,_⟩:=h.lf_out.fn_out
   exact one _ _ rfl rfl h
 |tup cs=>
  obtain⟨vs,rfl,_⟩:=h.tup_out
  exact one _ _ rfl rfl h
 |rop cs=>
  obtain⟨ad,V,rfl,_⟩:=h.rop_out
  exact one _ _ rfl rfl h
 |fn f fs cs=>
  obtain⟨us,vs,rfl,_⟩:=h.fn_out
  exact one _ _ rfl rfl h
 |ptr b off=>
  refine one _ _ rfl ?_ h
  have:=h.ptr_one
  cases v<;>first|rfl|cases this
 |err=>
  obtain⟨t,u,rfl⟩:=h.err_out
  exact one _ _ rfl rfl h
 |mp b=>
  refine one _ _ rfl ?_ h
  have:=h.mp_one
  cases v<;>first|rfl|cases this
 |own b off len st=>
  refine one _ _ rfl ?_ h
  have:=h.own_one
  cases v<;>first|rfl|cases this
end
end Go.Proofs.YtcaicpnepfjcmaaGreat
