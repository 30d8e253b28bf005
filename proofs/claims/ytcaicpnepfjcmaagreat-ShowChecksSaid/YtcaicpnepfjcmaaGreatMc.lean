/- Lemmas of the proof. -/
import Derived.Test.YtcaicpnepfjcmaaGreatMb
import Derived.Laws.Append
import Derived.Lib.SliceRun
import GoSem.ClaimJoined
import Derived.ChangeArms
import Derived.OpenShut
import Derived.ArgAppend
set_option linter.all false
namespace Go.Proofs.YtcaicpnepfjcmaaGreat
open Go Go.RowKit
def a0s:= @List.length_append
def a2k:= @List.all_append
def a2x:= @List.getElem?_of_mem
def a3k:= @Nat.mul_le_mul_right
def a3o:= @List.length_range
def a3v:= @List.flatten_cons
def a4o:= @List.getElem_mem
def a5n:= @Nat.mod_lt
def a6d:= @Nat.mul_comm
def a6o:= @List.map_nil
def a6r:= @List.all_cons
def a7d:= @Array.size_append
def a9d:= @Nat.add_sub_cancel'
def a9t:= @List.size_toArray
def b0f:= @Array.size_range
def b0i:= @List.map_toArray
def b0n:= @Array.getElem?_append_right
def b1a:= @Array.size_map
def b2y:= @Nat.add_le_add_left
def AV.off0(b:Nat):AV->Bool
 | .lf _=>true
 | .rop _=>true
 | .ptr b' _=> !(Nat.beq b' b)
 | .own b' _ _ _=> !(Nat.beq b' b)
 | .mp b'=> !(Nat.beq b' b)
 | .err=>true
 |_=>false
def AV.clear(b:Nat):AV->Bool
 | .agg cs=>cs.all (AV.off0 b)
 | .tup cs=>cs.all (AV.off0 b)
 | .fn _ fs cs=>fs.all (AV.off0 b)&&cs.all (AV.off0 b)
 | .lf _=>true
 | .rop _=>true
 | .ptr b' _=> !(Nat.beq b' b)
 | .own b' _ _ _=> !(Nat.beq b' b)
 | .mp b'=> !(Nat.beq b' b)
 | .err=>true
structure LaterX(b:Nat)(L:Nat->Prop)(w:World)(ρ:Pl)(w':World)(ρ':Pl):Prop where
 ext:∀b',b'≠b->ρ' b'=ρ b'
 cell:∀k o u,¬Fb L ρ k->w.cell? ⟨k,o,none⟩=some u->w'.cell? ⟨k,o,none⟩=some u/\¬Fb L ρ' k
 shape:∀k x,w.shape? k=some x->w'.shape? k=some x
theorem Ae1{a b:Nat}(h:(!(Nat.beq a b))=true):a≠b:=by
 rintro rfl
 rw[a6p]at h
 cases h
theorem RelV.off0X{b:Nat}{L:Nat->Prop}{w w':World}{ρ ρ':Pl}(hl:LaterX b L w ρ w' ρ'){x:AV}{v:Value}(h:RelV w L ρ x v)(hc:x.off0 b=true):RelV w' L ρ' x v:=by
 cases h with
 |lf x v h=>exact .lf x v (h.later hl.cell)
 |agg cs vs hl' h=>cases hc
 |tup cs vs hl' h=>cases hc
 |rop cs ad V hs h1 h2=>
  refine .rop cs ad V hs (fun j x hj=>?_) (fun j x hj=>(h2 j x hj).later hl.cell)
  obtain⟨a,c⟩:=h1 j x hj
  exact(hl.cell _ _ _ a c).symm
 |ptr b' off v hb h1 h=>
  have e:=hl.ext b' (Ae1 hc)
  exact .ptr b' off v (by rw[e];exact hb) h1 fun k o hk=>h k o (e▸hk)
 |own b' off len st v hb h1 h=>
  have e:=hl.ext b' (Ae1 hc)
  refine .own b' off len st v (by rw[e];exact hb) h1 fun k o hk=>?_
  obtain⟨cap,el,n,h1,h2,h3,h4⟩:=h k o (e▸hk)
  exact⟨cap,el,n,h1,h2,hl.shape _ _ h3,h4⟩
 |mp b' v hb h1 h=>
  have e:=hl.ext b' (Ae1 hc)
  exact .mp b' v (by rw[e];exact hb) h1 fun k o hk=>h k o (e▸hk)
 |fn f fs cs us vs a b h k=>cases hc
 |err t u=>exact .err t u
theorem RelV.laterX{b:Nat}{L:Nat->Prop}{w w':World}{ρ ρ':Pl}(hl:LaterX b L w ρ w' ρ'){x:AV}{v:Value}(h:RelV w L ρ x v)(hc:x.clear b=true):RelV w' L ρ' x v:=by
 have all:∀{cs:List AV}{vs:List Value},(∀(i:Nat)(x:AV)(v:Value),cs[i]?=some x->vs[i]?=some v->RelV w L ρ x v)->cs.all (AV.off0 b)=true->∀(i:Nat)(x:AV)(v:Value),cs[i]?=some x->vs[i]?=some v->RelV w' L ρ' x v:=
  fun h hc i x v hx hv=>(h i x v hx hv).off0X hl (a0l.1 hc x (a0a hx))
 cases x with
 |agg cs=>
  obtain⟨vs,rfl,hlen,hr⟩:=h.agg_out
  exact .agg cs vs hlen (all hr hc)
 |tup cs=>
  obtain⟨vs,rfl,hlen,hr⟩:=h.tup_out
  exact .tup cs vs hlen (all hr hc)
 |fn f fs cs=>
  obtain⟨us,vs,rfl,h1,h2,h3,h4⟩:=h.fn_out
  simp only[AV.clear,a0w]at hc
  exact .fn f fs cs us vs h1 h2 (all h3 hc.1) (all h4 hc.2)
 |lf x=>exact h.off0X hl rfl
 |rop cs=>exact h.off0X hl rfl
 |ptr b' off=>exact h.off0X hl hc
 |own b' off len st=>exact h.off0X hl hc
 |mp b'=>exact h.off0X hl hc
 |err=>exact h.off0X hl rfl

def Tm.dropO:Tm->Nat->Option Tm
 |[],_=>some []
 |(k,v)::r,t=>match Tm.dropO r t with
  |none=>none
  |some r'=>match Nat.beq k t with
   |true=>some r'
   |false=>some ((k,v)::r')
def Tm.clearO(b:Nat):Tm->Option Tm
 |[]=>some []
 |(k,x)::r=>match Tm.clearO b r with
  |none=>none
  |some r'=>match x.clear b with
   |true=>some ((k,x)::r')
   |false=>Tm.dropO r' k
theorem p2x:∀(tm tm':Tm)(d:Nat),tm.dropO d=some tm'->∀t x,tm'.get t=some x->d≠t/\tm.get t=some x
 |[],tm',d,h,t,x,hx=>by
  simp only[Tm.dropO,a0h]at h
  subst h;cases hx
 |(k,v)::r,tm',d,h,t,x,hx=>by
  simp only[Tm.dropO]at h
  cases e:Tm.dropO r d with
  |none=>simp[e]at h
  |some r'=>
   have ih:=p2x r r' d e t
   simp only[e]at h
   by_cases hk:k=d
   ·subst hk
    rw[a6p]at h
    simp only[a0h]at h
    subst h
    obtain⟨h1,h2⟩:=ih x hx
    exact⟨h1,by rw[p0w,if_neg h1];exact h2⟩
   ·rw[Gw hk]at h
    simp only[a0h]at h
    subst h
    rw[p0w]at hx⊢
    by_cases e2:k=t
    ·rw[if_pos e2]at hx⊢;exact⟨fun h=>hk (e2.trans h.symm),hx⟩
    ·rw[if_neg e2]at hx⊢;exact ih x hx
theorem p2e:∀(b:Nat)(tm tm':Tm),tm.clearO b=some tm'->∀t x,tm'.get t=some x->tm.get t=some x/\x.clear b=true
 |b,[],tm',h,t,x,hx=>by
  simp only[Tm.clearO,a0h]at h
  subst h;cases hx
 |b,(k,v)::r,tm',h,t,x,hx=>by
  simp only[Tm.clearO]at h
  cases e:Tm.clearO b r with
  |none=>simp[e]at h
  |some r'=>
   have ih:=p2e b r r' e t
   simp only[e]at h
   cases hv:v.clear b with
   |true=>
    simp only[hv,a0h]at h
    subst h
    rw[p0w]at hx⊢
    by_cases e2:k=t
    ·rw[if_pos e2]at hx⊢
     injection hx with hx
     subst hx
     exact⟨rfl,hv⟩
    ·rw[if_neg e2]at hx⊢;exact ih x hx
   |false=>
    simp only[hv]at h
    obtain⟨h1,h2⟩:=p2x _ _ _ h t x hx
    rw[p0w,if_neg h1]
    exact ih x h2
def HB.clear(b:Nat):HB->Bool
 | .live cs=>cs.all (AV.clear b)
 | .gho cs _=>cs.all (AV.clear b)
 |_=>true
def AH.clear(b:Nat):Nat->AH->Bool
 |_,[]=>true
 |n,x::r=>(match Nat.beq n b with|true=>true|false=>x.clear b)&&AH.clear b (n+1) r
def HB.ord:HB->Bool
 | .free=>true
 | .dead=>true
 | .live _=>true
 |_=>false
theorem p3m{x:HB}(h:x.ord=true):x.isExt=false:=by cases x<;>first|rfl|cases h
theorem p2l{b:Nat}:∀(H:AH)(n b':Nat)(cs:List AV),H.clear b n=true->H.at b'=.live cs->n+b'≠b->cs.all (AV.clear b)=true
 |[],n,b',cs,_,h,_=>by simp[AH.at]at h
 |x::r,n,0,cs,hc,h,hne=>by
  simp only[AH.clear,a0w]at hc
  rw[Gw (by omega)]at hc
  obtain rfl:x=.live cs:=by simpa[AH.at]using h
  exact hc.1
 |x::r,n,b'+1,cs,hc,h,hne=>by
  simp only[AH.clear,a0w]at hc
  rw[p0k]at h
  exact p2l r (n+1) b' cs hc.2 h (by omega)

theorem p2g{b:Nat}:∀(H:AH)(n b':Nat)(cs:List AV)(vs:List Value),H.clear b n=true->H.at b'=.gho cs vs->n+b'≠b->cs.all (AV.clear b)=true
 |[],n,b',cs,vs,_,h,_=>by simp[AH.at]at h
 |x::r,n,0,cs,vs,hc,h,hne=>by
  simp only[AH.clear,a0w]at hc
  rw[Gw (by omega)]at hc
  obtain rfl:x=.gho cs vs:=by simpa[AH.at]using h
  exact hc.1
 |x::r,n,b'+1,cs,vs,hc,h,hne=>by
  simp only[AH.clear,a0w]at hc
  rw[p0k]at h
  exact p2g r (n+1) b' cs vs hc.2 h (by omega)
theorem RelSt.regrow{E:Env}{tm tm':Tm}{H:AH}{a:Act}{w:World}{ρ:Pl}(h:RelSt E ⟨tm,H⟩ a w ρ){b:Nat}{w':World}{k' o':Nat}{c':Array Value}{e':TypeId}{lo hi:Nat}{cells':List AV}
  (htm:tm.clearO b=some tm') (hH:H.clear b 0=true) (hmap:(H.at b).ord=true)
  (hw:w'.heap[k']?=some (.cells c' e' (lo,hi))) (hlo:hi<=lo) (hsz:o'+cells'.length<=c'.size)
  (hk:(∃o,ρ b=some (some (k',o)))\/w.heap.size<=k')
  (hb:∀k,k<w.heap.size->k≠k'->w'.heap[k]?=w.heap[k]?) (hsh:∀k x,w.shape? k=some x->w'.shape? k=some x)
  (hos:w'.os=w.os) (htape:w'.tape=w.tape) (hout:w'.output=w.output) (hsize:w.heap.size<=w'.heap.size)
  (hc:LaterX b E.L w ρ w' (ρ.upd b (some (k',o')))->∀(j:Nat)(x:AV),cells'[j]?=some x->∃v,c'[o'+j]?=some v/\RelV w' E.L (ρ.upd b (some (k',o'))) x v):
  LaterX b E.L w ρ w' (ρ.upd b (some (k',o')))/\RelSt E ⟨tm',H.put b (.live cells')⟩ a w' (ρ.upd b (some (k',o'))):=by
 have hL:¬E.L k':=by
  rcases hk with⟨o,hk⟩|hk
  ·cases e:H.at b with
   |free=>rw[h.H.free b e]at hk;cases hk
   |dead=>rw[h.H.dead b e]at hk;cases hk
   |live cells=>
    obtain⟨k0,o0,c,el,lo,hi,h1,h2,h3,h4,h5,h6⟩:=h.H.live b cells e
    rw[h1]at hk
    injection hk with hk
    injection hk with hk
    injection hk with hk _
    subst hk
    exact h5
   |map es=>rw[e]at hmap;cases hmap
   |bld T e' b2 s=>rw[e]at hmap;cases hmap
   |hid=>rw[e]at hmap;cases hmap
   |hot k o cs=>rw[e]at hmap;cases hmap
   |gho cs vs=>rw[e]at hmap;cases hmap
  ·intro hL
   have:=h.lim _ hL
   have:=h.fr.size
   omega
 have hmine:E.O k'\/E.w0.heap.size<=k':=by
  rcases hk with⟨o,hk⟩|hk
  ·exact h.mineO hk
  ·have:=h.fr.size
   exact .inr (by omega)
 have hne:∀{b' k o:Nat},b'≠b->ρ b'=some (some (k,o))->k≠k':=fun {b' k o} hbb h1 e=>by
  subst e
  rcases hk with⟨o2,hk⟩|hk
  ·exact hbb (h.H.dist _ _ _ _ _ h1 hk)
  ·have:=h.H.lt h1
   omega
 have hu:∀{b' k o:Nat},(ρ.upd b (some (k',o'))) b'=some (some (k,o))->(b'=b/\k=k'/\o=o')\/(b'≠b/\ρ b'=some (some (k,o))):=fun {b' k o} h1=>by
  unfold Pl.upd at h1
  by_cases e:b'=b
  ·rw[if_pos e]at h1
   simp only[a0h,a1p]at h1
   exact .inl ⟨e,h1.1.symm,h1.2.symm⟩
  ·rw[if_neg e]at h1
   exact .inr ⟨e,h1⟩
 have hla:LaterX b E.L w ρ w' (ρ.upd b (some (k',o'))):=by
  refine⟨fun b' hb'=>by unfold Pl.upd;rw[if_neg hb'],fun k o u h1 h2=>?_,hsh⟩
  have hkk:k≠k':=by
   rintro rfl
   rcases hk with⟨o2,hk⟩|hk
   ·exact h1 (.inr ⟨b,o2,hk⟩)
   ·have:=Ef h2
    omega
  refine⟨by rw[a3d (w:=w) (hb k (Ef h2) hkk)];exact h2,?_⟩
  rintro(hf|⟨b',o2,hf⟩)
  ·exact h1 (.inl hf)
  ·rcases hu hf with⟨_,e,_⟩|⟨_,h3⟩
   ·exact hkk e
   ·exact h1 (.inr ⟨b',o2,h3⟩)
 have hput:∀b',b'≠b->(H.put b (.live cells')).at b'=H.at b':=fun b' hb'=>by rw[p0e,if_neg hb']
 have hupd:∀b',b'≠b->(ρ.upd b (some (k',o'))) b'=ρ b':=fun b' hb'=>by unfold Pl.upd;rw[if_neg hb']
 refine⟨hla,⟨h.size,h.defers,fun t x hx=>?_,⟨fun b' hb'=>?_,fun b' hb'=>?_,fun b' cs hb'=>?_,fun b' es hb'=>?_,fun b1 b2 k o1 o2 h1 h2=>?_,h.H.ext.put hla.cell (p3m hmap) rfl hupd hsize (fun b' cs vs hne hg y hy v hv=>hv.laterX hla (a0l.1 (p2g H 0 b' cs vs hH hg (by omega)) y hy)) fun b' k o hne' hk'=>hb k (h.H.lt hk') (hne hne' hk')⟩,?_,fun b' k o h1=>?_,h.lim⟩⟩
 ·obtain⟨h1,h2⟩:=p2e _ _ _ htm t x hx
  obtain⟨h3,h4⟩:=h.tm t x h1
  exact⟨h3,h4.laterX hla h2⟩
 ·by_cases e:b'=b
  ·subst e;rw[p0e,if_pos rfl]at hb';cases hb'
  ·rw[hput b' e]at hb';rw[hupd b' e];exact h.H.free b' hb'
 ·by_cases e:b'=b
  ·subst e;rw[p0e,if_pos rfl]at hb';cases hb'
  ·rw[hput b' e]at hb';rw[hupd b' e];exact h.H.dead b' hb'
 ·by_cases e:b'=b
  ·subst e
   rw[p0e,if_pos rfl]at hb'
   injection hb' with hb'
   subst hb'
   refine⟨k',o',c',e',lo,hi,by unfold Pl.upd;rw[if_pos rfl],hw,hlo,hsz,hL,fun j x hj=>?_⟩
   exact hc hla j x hj
  ·rw[hput b' e]at hb'
   obtain⟨k0,o0,c,el,lo0,hi0,h1,h2,h3,h4,h5,h6⟩:=h.H.live b' cs hb'
   refine⟨k0,o0,c,el,lo0,hi0,by rw[hupd b' e];exact h1,by rw[hb k0 (Cl h2) (hne e h1)];exact h2,h3,h4,h5,fun j x hj=>?_⟩
   obtain⟨v,g1,g2⟩:=h6 j x hj
   have hcl:=p2l H 0 b' cs hH hb' (by omega)
   exact⟨v,g1,g2.laterX hla (a0l.1 hcl x (a0a hj))⟩
 ·by_cases e:b'=b
  ·subst e;rw[p0e,if_pos rfl]at hb';cases hb'
  ·rw[hput b' e]at hb'
   obtain⟨k0,entries,clock,h1,h2,h3,h4⟩:=h.H.map b' es hb'
   exact⟨k0,entries,clock,by rw[hupd b' e];exact h1,by rw[hb k0 (Cl h2) (hne e h1)];exact h2,h3,h4⟩
 ·rcases hu h1 with⟨e1,f1,_⟩|⟨e1,f1⟩<;>rcases hu h2 with⟨e2,f2,_⟩|⟨e2,f2⟩
  ·rw[e1,e2]
  ·exact absurd f1 (hne e2 f2)
  ·exact absurd f2 (hne e1 f1)
  ·exact h.H.dist _ _ _ _ _ f1 f2
 ·refine h.fr.trans ⟨hos,htape,hout,hsize,fun k hk1 hk2=>hb k hk1 fun e=>hk2 ?_,hsh⟩
  subst e
  exact hmine
 ·rcases hu h1 with⟨e1,rfl,_⟩|⟨_,f1⟩
  ·exact hmine.imp_left fun h1=>⟨h1,by show((H.put b (.live cells')).at b').isExt=false;rw[p0e,if_pos e1];rfl⟩
  ·exact h.minePut b rfl f1

/-! ### Cells in a row -/
theorem Hw{P:Program}{k off:Nat}{e:TypeId}{lo hi:Nat}(hlo:hi<=lo):∀(vs:List Value)(i:Nat)(c:Array Value)(w:World),w.heap[k]?=some (.cells c e (lo,hi))->off+i+vs.length<=c.size->(∀v∈vs,v.oneCell'=true)->
  ∃(c':Array Value)(w':World),(storeCells ⟨k,off,none⟩ vs i).run P w=.ok () w'/\w'.heap[k]?=some (.cells c' e (lo,hi))/\c'.size=c.size/\(∀j,c'[j]?=if off+i<=j/\j<off+i+vs.length then vs[j-(off+i)]? else c[j]?)/\(∀k',k'≠k->w'.heap[k']?=w.heap[k']?)/\(∀k x,w.shape? k=some x->w'.shape? k=some x)/\w'.os=w.os/\w'.tape=w.tape/\w'.output=w.output/\w'.heap.size=w.heap.size
 |[],i,c,w,hw,hl,h1=>⟨c,w,rfl,hw,rfl,fun j=>by rw[if_neg (by simp)],fun _ _=>rfl,fun _ _ h=>h,rfl,rfl,rfl,rfl⟩
 |v::vs,i,c,w,hw,hl,h1=>by
  simp only[a0j]at hl
  have hcell:w.cell? ⟨k,off+i,none⟩=some (c[off+i]'(by omega)):=by
   unfold World.cell?
   rw[hw]
   exact a2e (by show off+i<c.size;omega)
  have hfz:w.frozen? ⟨k,off+i,none⟩=false:=by
   simp only[World.frozen?,hw]
   simp
   omega
  have hst:(store ((⟨k,off,none⟩:Addr).add i) v).run P w=.ok () (w.setCell ⟨k,off+i,none⟩ v):=by
   rw[Bf rfl,run_store P w _ v _ (h1 v (by simp))]
   simp[hcell,hfz]
  obtain⟨c',w',g1,g2,g3,g4,g5,g6,g7,g8,g9,g10⟩:=Hw (P:=P) (off:=off) hlo vs (i+1) (c.setIfInBounds (off+i) v) (w.setCell ⟨k,off+i,none⟩ v) (heap_setCell w k (off+i) v c e _ hw) (by simp;omega) fun u hu=>h1 u (by simp[hu])
  refine⟨c',w',by simp only[storeCells,a0t,hst,a0o,g1],g2,by simpa using g3,fun j=>?_,fun k' hk=>by rw[g5 k' hk,Below.heap_setCell w _ v k' hk],fun k' x hx=>g6 k' x (by rw[Gh];exact hx),g7,g8,g9,by rw[g10];simp[World.setCell]⟩
  rw[g4 j]
  by_cases e1:j=off+i
  ·subst e1
   rw[if_neg (by omega),if_pos (by simp),a3l]
   simp
   omega
  ·by_cases e2:off+(i+1)<=j/\j<off+(i+1)+vs.length
   ·rw[if_pos e2,if_pos (by simp;omega),show j-(off+i)=j-(off+(i+1))+1 by omega,a2l]
   ·rw[if_neg e2,if_neg (by simp;omega),a9p (by omega)]
def Lf.one:Lf->Bool
 | .val v=>v.oneCell'
 |_=>true
theorem RelL.one{w:World}{F:Nat->Prop}{x:Lf}{v:Value}(h:RelL w F x v)(h1:x.one=true):v.oneCell'=true:=by
 cases x with
 |val u=>
  generalize e:Lf.val u=y at h
  cases h<;>cases e
  exact h1
 |sl rows=>obtain⟨a,cap,rfl,_⟩:=h.slice;rfl
 |fn f caps=>obtain⟨ads,V,rfl,_⟩:=h.fn_out;rfl
theorem Ld{α:Type}{n:Nat}:∀(rows:List (List α))(i j:Nat),(∀row∈rows,row.length=n)->j<n->rows.flatten[i*n+j]?=(rows[i]?).bind (·[j]?)
 |[],i,j,_,_=>by simp
 |r::rows,0,j,h,hj=>by
  rw[a3v,a1k (by rw[h r (by simp)];omega)]
  simp
 |r::rows,i+1,j,h,hj=>by
  have hr:=h r (by simp)
  rw[a3v,a7m,a1h (by omega),show i*n+n+j-r.length=i*n+j by omega,Ld rows i j (fun row h'=>h row (by simp[h'])) hj]
  simp
theorem Bc{α:Type}{n:Nat}:∀(rows:List (List α)),(∀row∈rows,row.length=n)->rows.flatten.length=rows.length*n
 |[],_=>by simp
 |r::rows,h=>by
  rw[a3v,a0s,h r (by simp),Bc rows fun row h'=>h row (by simp[h']),a0j,a7m]
  omega
theorem RelL.news{P:Program}{w:World}{F:Nat->Prop}{rows:List (List Lf)}{v:Value}{n:Nat}(h:RelL w F (.sl rows) v)(hr:∀row∈rows,row.length=n)(hn:1<=n)(h1:rows.flatten.all Lf.one=true):
  ∃(news:List Value),news.length=rows.length*n/\(∀u∈news,u.oneCell'=true)/\(∀(j:Nat)(x:Lf),rows.flatten[j]?=some x->∃u,news[j]?=some u/\RelL w F x u)/\
   ((v=.slice none 0 0/\rows=[])\/∃(ad:Addr)(cap:Nat),v=.slice (some ad) rows.length cap/\∀(j:Nat)(u:Value),news[j]?=some u->w.cell? (ad.add j)=some u):=by
 rcases h.sl_out with⟨rfl,rfl⟩|⟨ad,cap,V,rfl,hs,hc,h2,h3⟩
 ·exact⟨[],by simp,by simp,by simp,.inl ⟨rfl,rfl⟩⟩
 ·let news:List Value:=(List.range (rows.length*n)).map fun j=>V (j/n) (j%n)
  have hnl:news.length=rows.length*n:=by simp[news]
  have hat:∀j,j<rows.length*n->∃x row,rows[j/n]?=some row/\row[j%n]?=some x/\rows.flatten[j]?=some x/\row.length=n:=fun j hj=>by
   have hjn:j/n<rows.length:=(Nat.div_lt_iff_lt_mul (by omega)).2 hj
   have hrow:=hr (rows[j/n]) (a4o hjn)
   have hm:j%n<n:=a5n _ (by omega)
   have hdm:j/n*n+j%n=j:=by rw[a6d];exact Nat.div_add_mod j n
   refine⟨(rows[j/n])[j%n]'(by rw[hrow];exact hm),rows[j/n],a0b hjn,a0b _,?_,hrow⟩
   have:=Ld rows (j/n) (j%n) hr hm
   rw[hdm]at this
   rw[this,a0b hjn]
   simp[hrow,hm]
  have hnj:∀j,j<rows.length*n->news[j]?=some (V (j/n) (j%n)):=fun j hj=>by simp[news,hj]
  have hlt:∀{j:Nat}{u:Value},news[j]?=some u->j<rows.length*n:=fun {j u} h=>by
   have:=(a0f.1 h).1
   omega
  refine⟨news,hnl,fun u hu=>?_,fun j x hx=>?_,.inr ⟨ad,cap,rfl,fun j u hu=>?_⟩⟩
  ·obtain⟨j,hj⟩:=a2x hu
   have hjl:=hlt hj
   obtain⟨x,row,q1,q2,q3,q4⟩:=hat j hjl
   rw[hnj j hjl]at hj
   injection hj with hj
   subst hj
   exact(h3 _ row _ x q1 q2).one (a0l.1 h1 x (a0a q3))
  ·have hjl:j<rows.length*n:=by rw[<-Bc rows hr];exact(a0f.1 hx).1
   obtain⟨y,row,q1,q2,q3,q4⟩:=hat j hjl
   rw[hx]at q3
   injection q3 with q3
   subst q3
   exact⟨_,hnj j hjl,h3 _ row _ x q1 q2⟩
  ·have hjl:=hlt hu
   obtain⟨y,row,q1,q2,q3,q4⟩:=hat j hjl
   rw[hnj j hjl]at hu
   injection hu with hu
   subst hu
   obtain⟨_,q5⟩:=h2 _ row _ y q1 q2
   have hdm:j/n*n+j%n=j:=by rw[a6d];exact Nat.div_add_mod j n
   rw[q4,hdm]at q5
   rw[Bf (hs.resolve_right fun h0=>absurd (a0f.1 q1).1 (by rw[show rows.length=0 by omega];exact Nat.not_lt_zero _))]
   exact q5
theorem Aj(b:Nat)(cs:List Lf):(cs.map AV.lf).all (AV.clear b)=true:=by
 rw[a0l]
 intro x hx
 obtain⟨y,_,rfl⟩:=a1d.1 hx
 rfl
theorem Hm(w:World)(need old:Nat)(e:TypeId):need<=grownCap w need old e:=by
 simp[grownCap,Question.cut]
section
variable {P:Program}{N:Nat}{ops:Array Oper}{m:Option Nat}{K:Tm->AH->Prop}{tm tm':Tm}{H:AH}{rest:List Oper}{ty:TypeId}{pos:String}{af:Array Edge}{d:Nat}{t e:TypeId}{x y:Operand}
theorem A8t{n nb len b:Nat}{rows:List (List Lf)}{cells:List AV}{zv:Value}[hu:HasU P t (.slice e)][hi:HasS P e n][hz:HasZ P e zv][hby:HasB P e nb]{E:Env}{a:Act}{w:World}{ρ:Pl}{K':Act->World->Prop}{Q:Exit->Act->World->Prop}
  (hR:RelSt E ⟨tm,H⟩ a w ρ) (hx:evT tm x=some (.own b 0 len n)) (hb:H.at b=.live cells) (hc:cells.length=len*n) (hy:evT tm y=some (.sl rows)) (hn1:Nat.ble 1 n=true)
  (hr:∀row∈rows,row.length=n) (h1:rows.flatten.all Lf.one=true) (hzs:Nat.beq zv.cells.size n=true)
  (hfit:(len+rows.length)*nb<=140737488355328) (hlen:len+rows.length<=9223372036854775807)
  (htm:tm.clearO b=some tm') (hH:AH.clear b 0 H=true) (hcl:cells.all (AV.clear b)=true)
  (hK:∀w' ρ' v,RelSt E ⟨tm',H.put b (.live (cells++rows.flatten.map .lf))⟩ a w' ρ'->RelV w' E.L ρ' (.own b 0 (len+rows.length) n) v->K' (a.put (some d) v) w'):
  Oper.wp P ⟨some d,.call ⟨.builtin .append, #[x,y], #[t,t]⟩,ty,pos,af,none⟩ a w K' Q:=by
 have hxv:RelV w E.L ρ (.own b 0 len n) (a.eval x):=hR.ev (by rw[Am];exact hx)
 have hyv:RelV w E.L ρ (.sl rows) (a.eval y):=hR.ev (by rw[Am];exact hy)
 obtain⟨k,o,c,el,lo,hi',g1,g2,g3,g4,g5,g6⟩:=hR.H.live b cells hb
 obtain⟨cap,e2,n2,hxe,hcap,hsh,hfitc⟩:=hxv.own_out k o g1
 have hn1':=a0c hn1
 obtain⟨news,q1,q2,q3,q4⟩:=hyv.lf_out.news (P:=P) hr hn1' h1
 obtain⟨i,hi1,hi2⟩:∃i,P.info? e=some i/\i.size=n:=by
  have:=hi.out
  cases hh:P.info? e with
  |none=>rw[hh]at this;cases this
  |some i=>rw[hh]at this;exact⟨i,rfl,by simpa using this⟩
 have hi3:i.bytes=nb:=by have:=hby.out;rw[hi1]at this;simpa using this
 have hi4:i.zero=some zv:=by have:=hz.out;rw[hi1]at this;simpa using this
 have hzs':=a2b hzs
 rw[a3b]at hxe
 rw[a3b]at hfitc
 have hcs:n2=c.size:=by
  have hsh':=hsh
  unfold World.shape? at hsh'
  rw[g2]at hsh'
  simp at hsh'
  exact hsh'.2.symm
 --the new cells
 have hnew:∀(j:Nat)(z:AV),(cells++rows.flatten.map AV.lf)[j]?=some z->(j<len*n/\cells[j]?=some z)\/(len*n<=j/\∃x,z=.lf x/\rows.flatten[j-len*n]?=some x):=fun j z hj=>by
  rcases a0y j cells.length with hlt|hge
  ·rw[a1k hlt]at hj
   exact .inl ⟨by omega,hj⟩
  ·rw[a1h hge,a0d,hc]at hj
   cases hf:rows.flatten[j-len*n]? with
   |none=>rw[hf]at hj;cases hj
   |some x=>
    rw[hf]at hj
    simp only[a1g,a0h]at hj
    exact .inr ⟨by omega,x,hj.symm,rfl⟩
 have hmapn:(H.at b).ord=true:=by rw[hb];rfl
 have fin:∀(w':World)(k' o' cap':Nat)(c':Array Value)(e':TypeId)(lo' hi'':Nat),
   (execOp a.eval ⟨some d,.call ⟨.builtin .append, #[x,y], #[t,t]⟩,ty,pos,af,none⟩).run P w=.ok (.value (.slice (some ⟨k',o',none⟩) (len+rows.length) cap')) w'->
   w'.heap[k']?=some (.cells c' e' (lo',hi''))->hi''<=lo'->len+rows.length<=cap'->o'+cap'*n<=c'.size->((∃o,ρ b=some (some (k',o)))\/w.heap.size<=k')->
   (∀k,k<w.heap.size->k≠k'->w'.heap[k]?=w.heap[k]?)->(∀k x,w.shape? k=some x->w'.shape? k=some x)->w'.os=w.os->w'.tape=w.tape->w'.output=w.output->w.heap.size<=w'.heap.size->
   (∀j,j<len*n->c'[o'+j]?=c[o+j]?)->(∀j,j<rows.length*n->c'[o'+len*n+j]?=news[j]?)->Oper.wp P ⟨some d,.call ⟨.builtin .append, #[x,y], #[t,t]⟩,ty,pos,af,none⟩ a w K' Q:=fun w' k' o' cap' c' e' lo' hi'' hrun r1 r2 r3 r4 r5 r6 r7 r8 r9 r10 r11 r12 r13=>by
  have hsz:o'+(cells++rows.flatten.map AV.lf).length<=c'.size:=by
   rw[a0s,a0e,Bc rows hr,hc,<-a3u]
   exact a2d (b2y (a3k _ r3) _) r4
  obtain⟨s1,s2⟩:=hR.regrow (tm':=tm') (cells':=cells++rows.flatten.map AV.lf) htm hH hmapn r1 r2 hsz r5 r6 r7 r8 r9 r10 r11 fun hla j z hj=>by
   rcases hnew j z hj with⟨hj1,hj2⟩|⟨hj1,x,rfl,hj2⟩
   ·obtain⟨v,p1,p2⟩:=g6 j z hj2
    exact⟨v,by rw[r12 j hj1];exact p1,p2.laterX hla (a0l.1 hcl z (a0a hj2))⟩
   ·obtain⟨u,p1,p2⟩:=q3 _ x hj2
    have hjl:j-len*n<rows.length*n:=by rw[<-Bc rows hr];exact(a0f.1 hj2).1
    have:=r13 (j-len*n) hjl
    rw[show o'+len*n+(j-len*n)=o'+j by omega]at this
    exact⟨u,by rw[this];exact p1,RelV.laterX hla (.lf _ _ p2) rfl⟩
  unfold Oper.wp
  rw[hrun]
  refine hK _ _ _ s2 ?_
  refine .own b 0 _ n _ (by unfold Pl.upd;rw[if_pos rfl];simp) rfl fun k2 o2 hk2=>?_
  unfold Pl.upd at hk2
  rw[if_pos rfl]at hk2
  simp only[a0h,a1p]at hk2
  obtain⟨rfl,rfl⟩:=hk2
  exact⟨cap',e',c'.size,rfl,r3,by unfold World.shape?;rw[r1],r4⟩
 have hexec:∀{v:Value}{w':World},(Builtin.append_ #[t,t] ty #[a.eval x,a.eval y]).run P w=.ok v w'->(execOp a.eval ⟨some d,.call ⟨.builtin .append, #[x,y], #[t,t]⟩,ty,pos,af,none⟩).run P w=.ok (.value v) w':=fun {v w'} hh=>by
  unfold execOp
  simp only[resolve,invoke,builtin,a0t,a1m,a0o,b0i,a2g,a6o,hh]
 have inplace:∀(v:Value),a.eval y=v->(∃ax cx,v=.slice ax rows.length cx)->(Builtin.firstCells n rows.length v).run P w=.ok news.toArray w->len+rows.length<=cap->Oper.wp P ⟨some d,.call ⟨.builtin .append, #[x,y], #[t,t]⟩,ty,pos,af,none⟩ a w K' Q:=fun v hv ⟨ax,cx,hvs⟩ hf hroom=>by
  have hroomn:len*n+rows.length*n<=cap*n:=by rw[<-a3u];exact a3k _ hroom
  obtain⟨c',w',f1,f2,f3,f4,f5,f6,f7,f8,f9,f10⟩:=Hw (P:=P) (k:=k) (off:=o+len*n) g3 news 0 c w g2 (by rw[q1];omega) q2
  refine fin w' k o cap c' el lo hi' (hexec ?_) f2 g3 hroom (by rw[f3];omega) (.inl ⟨o,g1⟩) (fun k2 _ hk2=>f5 k2 hk2) f6 f7 f8 f9 (by omega) (fun j hj=>?_) fun j hj=>?_
  ·rw[hxe,hv,hvs]
   rw[hvs]at hf
   simp[Builtin.append_,run_underlying hu.out,sizeOf,typeInfo,hi1,hi2,Builtin.lenOf,hroom,hf,Bf,f1]
  ·rw[f4,if_neg (by omega)]
  ·rw[f4,if_pos (by rw[q1];omega)]
   congr 1
   omega
 rcases q4 with⟨hv,rfl⟩|⟨ad,cx,hv,hcellsv⟩
 ·refine inplace _ hv ⟨none,0,rfl⟩ ?_ (by simpa using hcap)
  have:news=[]:=a0z (by simpa using q1)
  subst this
  simp[Builtin.firstCells]
 ·have hf:(Builtin.firstCells n rows.length (.slice (some ad) rows.length cx)).run P w=.ok news.toArray w:=run_firstCells_some (P:=P) w n rows.length ad rows.length cx news q1 hcellsv
  rcases a0y cap (len+rows.length)with hgrow|hroom
  ·have holds:∀(j:Nat)(v:Value),((List.range (len*n)).map fun j=>c.getD (o+j) undef)[j]?=some v->w.cell? ((⟨k,o,none⟩:Addr).add j)=some v:=fun j v hj=>by
    have hjl:j<len*n:=by
     have:=(a0f.1 hj).1
     simpa using this
    obtain⟨z,hz'⟩:∃z,cells[j]?=some z:=⟨_,a0b (by omega)⟩
    obtain⟨u,p1,_⟩:=g6 j z hz'
    rw[a0d,a2u hjl]at hj
    simp only[a1g,a0h]at hj
    rw[Bf rfl]
    rw[a0r,p1]at hj
    simp only[a1a]at hj
    subst hj
    exact Bi g2 p1
   have hr':=run_append_grow (P:=P) w t ty e i zv hu.out hi1 hi4 ⟨k,o,none⟩ len cap ((List.range (len*n)).map fun j=>c.getD (o+j) undef) (by simp[hi2]) holds ad rows.length cx news (by rw[hi2];exact q1) hcellsv hgrow (by omega) (growslice_fits hgrow (by rw[hi3];exact hfit))
   have hge:=Hm w (len+rows.length) cap e
   refine fin _ w.heap.size 0 _ _ e 0 0 (hexec (by rw[hxe,hv];exact hr')) (Bz w.drew _) (a0n _) hge ?_ (.inr (a0n _)) (fun k2 hk2 _=>Ap w.drew _ hk2) (fun k2 x hx=>by rw[Cn (Ap w.drew _ (Ga hx))];exact hx) rfl rfl rfl (by simp) (fun j hj=>?_) fun j hj=>?_
   ·simp only[a7d,a9t,a0e,a3o,q1,Builtin.zeroCells,b1a,b0f,hzs',a1n]
    rw[<-a3u,<-a3u,a9d hge]
    exact a0n _
   ·obtain⟨z,hz'⟩:∃z,cells[j]?=some z:=⟨_,a0b (by omega)⟩
    obtain⟨u,p1,_⟩:=g6 j z hz'
    rw[a1n,a1r (by simp;omega),a1r (by simpa using hj)]
    simp[hj,p1,a0r]
   ·rw[a1n,a1r (by simp;omega),b0n (by simp)]
    simp
  ·exact inplace _ hv ⟨some ad,cx,rfl⟩ hf hroom
theorem p0h{n nb len b:Nat}{rows:List (List Lf)}{cells:List AV}{zv:Value}[hu:HasU P t (.slice e)][hi:HasS P e n][hz:HasZ P e zv][hby:HasB P e nb]
  (hx:evT tm x=some (.own b 0 len n)) (hb:H.at b=.live cells) (hy:evT tm y=some (.sl rows)) (htm:tm.clearO b=some tm') (hH:AH.clear b 0 H=true) (hn1:Nat.ble 1 n=true) (hzs:Nat.beq zv.cells.size n=true) (hN:LN d N)
  (hc:cells.length=len*n) (hr:∀row∈rows,row.length=n) (h1:rows.flatten.all Lf.one=true) (hcl:cells.all (AV.clear b)=true)
  (hfit:(len+rows.length)*nb<=140737488355328) (hlen:len+rows.length<=9223372036854775807)
  (h:Reg none P N ops rest ((d,.own b 0 (len+rows.length) n)::tm') (H.put b (.live (cells++rows.flatten.map .lf))) K):
  Reg none P N ops (⟨some d,.call ⟨.builtin .append, #[x,y], #[t,t]⟩,ty,pos,af,none⟩::rest) tm H K:=by
 refine⟨fun E a w ρ hE hR=>?_⟩
 replace h:=h.out
 refine wpList_plain rfl fun K' hK=>?_
 exact A8t hR hx hb hc hy hn1 hr h1 hzs hfit hlen htm hH hcl fun w' ρ' v s2 hv=>hK _ _ (h E _ w' ρ' hE (s2.put (by rw[hE];exact a0c hN) hv))
end
def HB.idle:HB->Bool
 | .dead=>true
 | .free=>true
 |_=>false
theorem p1r{x:HB}(h:x.idle=true):x.ord=true:=by cases x<;>first|rfl|cases h
theorem Dh{w:World}{k:Nat}{c:Array Value}{e:TypeId}{fr:Nat×Nat}(h:w.heap[k]?=some (.cells c e fr)):w.shape? k=some (e,c.size):=by
 unfold World.shape?
 rw[h]
section
variable {P:Program}{N:Nat}{ops:Array Oper}{m:Option Nat}{K:Tm->AH->Prop}{tm tm':Tm}{H:AH}{rest:List Oper}{ty:TypeId}{pos:String}{af:Array Edge}{d:Nat}{t e:TypeId}{x y z:Operand}
theorem K1{w:World}{L:Nat->Prop}{ρ:Pl}{b k o len cap n sz:Nat}{e:TypeId}(hc:len<=cap)(hsh:w.shape? k=some (e,sz))(hf:o+cap*n<=sz):RelV w L (ρ.upd b (some (k,o))) (.own b 0 len n) (.slice (some ⟨k,o,none⟩) len cap):=by
 refine .own b 0 _ n _ (by unfold Pl.upd;rw[if_pos rfl];simp) rfl fun k2 o2 hk2=>?_
 unfold Pl.upd at hk2
 rw[if_pos rfl]at hk2
 simp only[a0h,a1p]at hk2
 obtain⟨rfl,rfl⟩:=hk2
 exact⟨cap,e,sz,rfl,hc,hsh,hf⟩
theorem p0q(b:Nat){n nb:Nat}{row:List Lf}{rows:List (List Lf)}{zv:Value}[hu:HasU P t (.slice e)][hi:HasS P e n][hz:HasZ P e zv][hby:HasB P e nb]
  (hx:evT tm x=some (.val (.slice none 0 0))) (hy:evT tm y=some (.sl (row::rows))) (hb:(H.at b).idle=true) (htm:tm.clearO b=some tm') (hH:AH.clear b 0 H=true) (hn1:Nat.ble 1 n=true) (hzs:Nat.beq zv.cells.size n=true) (hN:LN d N)
  (hr:∀r∈row::rows,r.length=n) (h1:(row::rows).flatten.all Lf.one=true) (hfit:(row::rows).length*nb<=140737488355328) (hlen:(row::rows).length<=9223372036854775807)
  (h:Reg none P N ops rest ((d,.own b 0 (row::rows).length n)::tm') (H.put b (.live ((row::rows).flatten.map .lf))) K):
  Reg none P N ops (⟨some d,.call ⟨.builtin .append, #[x,y], #[t,t]⟩,ty,pos,af,none⟩::rest) tm H K:=by
 refine⟨fun E a w ρ hE hR=>?_⟩
 replace h:=h.out
 refine wpList_plain rfl fun K' hK=>?_
 have hxv:=(hR.ev (x:=x) (by rw[Am];exact hx)).val_eq
 have hyv:RelV w E.L ρ (.sl (row::rows)) (a.eval y):=hR.ev (by rw[Am];exact hy)
 obtain⟨news,q1,q2,q3,q4⟩:=hyv.lf_out.news (P:=P) hr (a0c hn1) h1
 obtain⟨i,hi1,hi2⟩:∃i,P.info? e=some i/\i.size=n:=by
  have:=hi.out
  cases hh:P.info? e with
  |none=>rw[hh]at this;cases this
  |some i=>rw[hh]at this;exact⟨i,rfl,by simpa using this⟩
 have hi3:i.bytes=nb:=by have:=hby.out;rw[hi1]at this;simpa using this
 have hi4:i.zero=some zv:=by have:=hz.out;rw[hi1]at this;simpa using this
 have hzs':=a2b hzs
 rcases q4 with⟨_,h0⟩|⟨ad,cx,hv,hcellsv⟩
 ·cases h0
 generalize hrr:row::rows=R at*
 have hpos:0<R.length:=by rw[<-hrr];simp
 have hr':=run_append_nil (P:=P) w t ty e i zv hu.out hi1 hi4 ad R.length cx news (by rw[hi2];exact q1) hcellsv hpos (by omega) (by rw[hi3];omega)
 have hexec:(execOp a.eval ⟨some d,.call ⟨.builtin .append, #[x,y], #[t,t]⟩,ty,pos,af,none⟩).run P w=.ok (.value (.slice (some ⟨w.heap.size,0,none⟩) R.length (grownCap w R.length 0 e))) (w.drew.alloc (.cells (news.toArray++Builtin.zeroCells zv.cells (grownCap w R.length 0 e-R.length)) e)):=by
  unfold execOp
  simp only[resolve,invoke,builtin,a0t,a1m,a0o,b0i,a2g,a6o,hxv,hv,hr']
 have hge:=Hm w R.length 0 e
 have hsz:(news.toArray++Builtin.zeroCells zv.cells (grownCap w R.length 0 e-R.length)).size=grownCap w R.length 0 e*n:=by
  simp only[a7d,a9t,q1,Builtin.zeroCells,b1a,b0f,hzs']
  rw[<-a3u,a9d hge]
 obtain⟨s1,s2⟩:=hR.regrow (tm':=tm') (cells':=R.flatten.map AV.lf) (w':=w.drew.alloc (.cells (news.toArray++Builtin.zeroCells zv.cells (grownCap w R.length 0 e-R.length)) e)) (k':=w.heap.size) (o':=0) htm hH (p1r hb) (Bz w.drew _) (a0n _)
  (by rw[hsz,a0e,Bc R hr,a1n];exact a3k _ hge) (.inr (a0n _)) (fun k2 hk2 _=>Ap w.drew _ hk2) (fun k2 x hx=>by rw[Cn (Ap w.drew _ (Ga hx))];exact hx) rfl rfl rfl (by simp) fun hla j z hj=>by
   rw[a0d]at hj
   cases hf:R.flatten[j]? with
   |none=>rw[hf]at hj;cases hj
   |some x=>
    rw[hf]at hj
    simp only[a1g,a0h]at hj
    subst hj
    obtain⟨u,p1,p2⟩:=q3 _ x hf
    have hjl:j<news.length:=(a0f.1 p1).1
    refine⟨u,?_,RelV.laterX hla (.lf _ _ p2) rfl⟩
    rw[a1n,a1r (by simpa using hjl)]
    simpa using p1
 unfold Oper.wp
 rw[hexec]
 refine hK _ _ (h E _ _ _ hE (s2.put (by rw[hE];exact a0c hN) (K1 hge (Dh (Bz w.drew _)) ?_)))
 rw[hsz]
 omega
theorem p0x{b:Nat}{ps:Array (Nat×Operand)}{len n:Nat}{zv:Value}{ys:List (Nat×AV)}{out:List AV}[hu:HasU P t (.slice e)][hi:HasS P e n][hz:HasZ P e zv](hb':H.nextId=some b)(hm:Vz m b=true)(h2:Nat.ble (len*n) 16777216=true)(hy:Ew (evT tm) ps.toList=some ys)(ho:Hl (fun(i:Nat)=>some (i*n,n)) ys (Gp zv (len*n))=some out)(hN:LN d N)(h:Reg m P N ops rest ((d,.own b 0 len n)::tm) (H.put b (.live out)) K):Reg m P N ops (⟨some d,.buildSlice t len ps,ty,pos,af,none⟩::rest) tm H K:=by
 have h2':=a0c h2
 refine S.new rfl hb' hm (fun E st a w ρ K' Q hr he hH hn hK=>?_) hN h
 obtain⟨g1,g2⟩:=Ks (w:=w) (L:=E.L) (ρ:=ρ) (η:=a.eval) hy fun x hx y hxy=>hr.ev (he x (by simpa[Op.operands]using hx) y hxy)
 have hzr:I9 w E.L ρ (Gp zv (len*n)) ((Array.range (len*n)).map (zv.cells[· %zv.cells.size]!)):=⟨by simp[Gp],fun j x hx=>by
  unfold Gp at hx
  rw[a0d]at hx
  by_cases hj:j<len*n
  ·rw[a2u hj]at hx
   simp only[a1g,a0h]at hx
   subst hx
   exact⟨_,by rw[b3m,b2i,if_pos hj];rfl,Ab _⟩
  ·rw[a0v (by simpa using hj)]at hx
   cases hx⟩
 obtain⟨r,h3,h4,h5⟩:=Ju ys _ _ _ out g1 g2 hzr ho
 have h3':Instr.fill (fun i=>some (i*n,n)) ((Array.range (len*n)).map (zv.cells[· %zv.cells.size]!)) (List.map (fun x=>(x.fst,a.eval x.snd)) ps.toList)=some r:=by rw[<-h3,a7o]
 have hrs:r.size=len*n:=by
  have hout:∀(ys:List (Nat×AV))(cs out:List AV),Hl (fun(i:Nat)=>some (i*n,n)) ys cs=some out->out.length=cs.length:=by
   intro ys
   induction ys with
   |nil=>intro cs out h;simp only[Hl,a0h]at h;subst h;rfl
   |cons p ys ih=>
    intro cs out h
    obtain⟨i,x⟩:=p
    simp only[Hl]at h
    split at h
    ·rename_i hbb
     rw[a0w,a0w]at hbb
     have h6:=a2b hbb.1.1
     have h7:=a0c hbb.1.2
     rw[ih _ _ h,I4 _ _ _ (by omega)]
    ·cases h
  rw[<-h4,hout _ _ _ ho]
  simp[Gp]
 have hw:(execOp a.eval ⟨some d,.buildSlice t len ps,ty,pos,af,none⟩).run P w=.ok (.value (.slice (some ⟨w.heap.size,0,none⟩) len len)) (w.alloc (.cells r e)):=by
  have n1:¬2^24<len*n:=by omega
  by_cases n0:len*n=0
  ·have hr0:(Array.range (len*n)).map (zv.cells[· %zv.cells.size]!)= #[]:=by rw[n0];simp
   have hrc:∀(f:Nat->Value),(Array.range 0).map f= #[]:=fun f=>by simp
   simp only[execOp,Instr.buildSlice,a0t,run_underlying hu.out,Ax hi.out,a0o]
   rw[n0]
   rw[hr0]at h3'
   simp[hrc,h3',newRow,a0t]
  ·simp only[execOp,Instr.buildSlice,a0t,run_underlying hu.out,Ax hi.out,a0o]
   simp[n0,n1,Gc hz.out,h3',newRow,a0t]
 obtain⟨k1,k2⟩:=hr.alloc (hn b _ rfl) out r e (by omega) h5
 unfold Oper.wp
 rw[hw]
 exact hK _ _ _ k1 (K1 (a0n _) (Dh (Bz w _)) (by rw[hrs];omega))
theorem p2c{b off n:Nat}{cells:List AV}{r:AV}[hi:HasS P t n](hx:evT tm x=some (.ptr b off))(hy:evT tm y=some r)(hb:H.at b=.live cells)(h1:r.boxed=true)(h2:(r.cells.all AV.one)=true)(hn:r.cells.length=n)(hl:off+n<=cells.length)(h:Reg none P N ops rest tm (H.put b (.live (Bk off r.cells cells))) K):Reg none P N ops (⟨none,.store t x y,ty,pos,af,none⟩::rest) tm H K:=
 S.store hx hy hb h1 h2 hn (a3f hl) h

/-! ### Own slices that nobody writes to any more -/
theorem OwnRows.of(cs:List Lf){n:Nat}{rows:List (List Lf)}(hr:∀row∈rows,row.length=n)(h:cs=rows.flatten):OwnRows (cs.map .lf) 0 rows.length n rows:=by
 refine⟨rfl,fun i row hi=>⟨hr row (a0a hi),fun j x hj=>?_⟩⟩
 have hjn:j<n:=by rw[<-hr row (a0a hi)];exact(a0f.1 hj).1
 rw[a1n,a0d,h,Ld rows i j hr hjn,hi]
 simp[hj]
theorem RelSt.freeze{E:Env}{a:Act}{w:World}{ρ:Pl}(hR:RelSt E ⟨tm,H⟩ a w ρ){q b off len n:Nat}{cells:List AV}{rows:List (List Lf)}(ht:tm.get q=some (.own b off len n))(hb:H.at b=.live cells)(hr:OwnRows cells off len n rows):RelSt E ⟨(q,.sl rows)::tm,H.put b .dead⟩ a w (ρ.upd b none):=by
 obtain⟨hq,hv⟩:=hR.tm q _ ht
 obtain⟨k,o,c,e,lo,hi,g1,g2,g3,g4,g5,g6⟩:=hR.H.live b cells hb
 have hk:=hR.kill (b:=b) (by show(H.at b).isExt=false;rw[hb];rfl)
 have hF:∀i,Fb E.L (ρ.upd b none) i->Fb E.L ρ i:=fun i hi=>by
  rcases hi with hi|⟨b',o',hi⟩
  ·exact .inl hi
  ·unfold Pl.upd at hi
   by_cases e':b'=b
   ·rw[if_pos e']at hi;cases hi
   ·rw[if_neg e']at hi;exact .inr ⟨b',o',hi⟩
 have hnk:¬Fb E.L (ρ.upd b none) k:=by
  rintro(hf|⟨b',o',hf⟩)
  ·exact g5 hf
  ·unfold Pl.upd at hf
   by_cases e':b'=b
   ·rw[if_pos e']at hf;cases hf
   ·rw[if_neg e']at hf;exact e' (hR.H.dist _ _ _ _ _ hf g1)
 have hrel:RelV w E.L (ρ.upd b none) (.sl rows) (a.tmps.getD q undef):=by
  obtain⟨cap,e2,n2,hveq,hc,_⟩:=hv.own_out k o g1
  rw[hveq]
  obtain⟨rfl,hr⟩:=hr
  refine .lf _ _ (.sl rows ⟨k,o+off,none⟩ cap (fun i j=>c.getD (o+(off+(i*n+j))) undef) (.inl rfl) hc (fun i row j x h1 h2=>?_) fun i row j x h1 h2=>?_)
  ·obtain⟨hl,hx⟩:=hr i row h1
   obtain⟨v,g7,g8⟩:=g6 _ _ (hx j x h2)
   refine⟨hnk,?_⟩
   simp only[hl]
   rw[a1t,Bi g2 g7]
   simp[a0r,g7]
  ·obtain⟨hl,hx⟩:=hr i row h1
   obtain⟨v,g7,g8⟩:=g6 _ _ (hx j x h2)
   simp only[a0r,g7,a1a]
   exact g8.lf_out.less hF
 refine⟨hk.size,hk.defers,fun t' x hx=>?_,hk.H,hk.fr,hk.mine,hk.lim⟩
 rw[p0w]at hx
 by_cases e':q=t'
 ·rw[if_pos e']at hx
  injection hx with hx
  subst hx e'
  exact⟨hq,hrel⟩
 ·rw[if_neg e']at hx
  exact hk.tm t' x hx
theorem T.freeze{c:Code}{Q:Exit->St->Prop}(q:Nat){b off len n:Nat}{cells:List AV}{rows:List (List Lf)}(ht:tm.get q=some (.own b off len n))(hb:H.at b=.live cells)(hr:OwnRows cells off len n rows)(h:T P N c ⟨(q,.sl rows)::tm,H.put b .dead⟩ Q):T P N c ⟨tm,H⟩ Q:=
 ⟨fun E a w ρ hE hR=>h.out E a w _ hE (hR.freeze ht hb hr)⟩
theorem T.kill{c:Code}{Q:Exit->St->Prop}(b:Nat)(h:T P N c ⟨tm,H.put b .dead⟩ Q)(hn:(H.at b).isExt=false:=by rfl):T P N c ⟨tm,H⟩ Q:=
 ⟨fun E a w ρ hE hR=>h.out E a w _ hE (hR.kill hn)⟩
theorem p4p{rows:List (List Lf)}{u:TypeId}{n c:Nat}[hu:HasU P t (.slice e)](hx:evT tm x=some (.sl rows))(hN:LN d N)(h1:rows=[]->Reg none P N ops rest ((d,.val (.bool true))::tm) H K)(h2:Reg none P N ops rest ((d,.val (.bool false))::tm) H K):Reg none P N ops (⟨some d,.binOp .eql t x (.const (.slice none n c)) u,ty,pos,af,none⟩::rest) tm H K:=by
 refine⟨fun E a w ρ hE hR=>?_⟩
 replace h2:=h2.out
 refine wpList_plain rfl fun K' hK=>?_
 have hxv:RelV w E.L ρ (.sl rows) (a.eval x):=hR.ev (by rw[Am];exact hx)
 have hN':=a0c hN
 obtain⟨ad,cap,hv,_⟩:=hxv.lf_out.slice
 have hrun:(execOp a.eval ⟨some d,.binOp .eql t x (.const (.slice none n c)) u,ty,pos,af,none⟩).run P w=.ok (.value (.bool ad.isNone)) w:=by
  have:=Lib.run_eql_slice_nil (P:=P) w t e ad rows.length cap n c hu.out
  have hc:a.eval (.const (.slice none n c))=.slice none n c:=rfl
  simp only[execOp,hv,hc,eqGuard,a0t,a1m,a0o,this]
  simp[this]
 unfold Oper.wp
 rw[hrun]
 cases ad with
 |none=>
  have hrows:rows=[]:=by
   rcases hxv.lf_out.sl_out with⟨h,_⟩|⟨ad,cap',V,h,_⟩
   ·exact h
   ·rw[hv]at h;cases h
  exact hK _ _ ((h1 hrows).out E _ w ρ hE (hR.put (by rw[hE];exact hN') (Ab _)))
 |some ad=>exact hK _ _ (h2 E _ w ρ hE (hR.put (by rw[hE];exact hN') (Ab _)))

/-! ### Calls that return a slice of the caller's own -/
structure FnOwn(P:Program)(f:FuncId)(args:List AV)(rows:List (List Lf))(n:Nat):Prop where
 ent:Enters P f
 run:∀(L:Nat->Prop)(w:World)(vs:List Value),Glob w->(∀k,L k->k<w.heap.size)->args.length=vs.length->(∀(i:Nat)(x:AV)(v:Value),args[i]?=some x->vs[i]?=some v->RelV w L Ba x v)->
  Calls P f vs.toArray w fun e w'=>∃v,e=.returned v/\Below w.heap.size w w'/\((rows=[]/\RelV w' L Ba (.sl []) v)\/
   ∃k o c el lo hi cap,v=.slice (some ⟨k,o,none⟩) rows.length cap/\w.heap.size<=k/\w'.heap[k]?=some (.cells c el (lo,hi))/\hi<=lo/\rows.length<=cap/\o+cap*n<=c.size/\∀(j:Nat)(x:Lf),rows.flatten[j]?=some x->∃u,c[o+j]?=some u/\RelL w' (fun i=>L i\/i=k) x u)
end
section
variable {P:Program}{N:Nat}
theorem p5x{id:Nat}{l:List Oper}{Q:Exit->St->Prop}{tm:Tm}{H:AH}(n:Nat)(hm:P.follows .mixedOrders=true)(hB:I1 l.toArray n=true)
  (h:Reg (some H.length) P N l.toArray (l.take n) tm H (fun tm' H'=>Reg none P N l.toArray (l.drop n) tm' H' (fun tm H=>Q .normal ⟨tm,H⟩))):T P N (.region id l.toArray true) ⟨tm,H⟩ Q:=by
 refine⟨fun E a w ρ hE hr=>?_⟩
 obtain⟨ss,hok,hK⟩:=h.out
 have hn:n<=l.length:=by simp only[I1,a0w,decide_eq_true_eq]at hB;simpa using hB.2
 have htl:(l.take n).length=n:=by simp;omega
 obtain⟨h1,h2,h3,h4⟩:=O0 (ops:=l.toArray) (tm0:=tm) (H0:=H) (tr:=ss) (l.take n) ss 0 tm H (fun j hj=>by rw[htl]at hj;simp[hj]) (fun j _=>by simp) hok (fun t=>rfl) (fun b=>rfl)
 have F:Mt P N H.length l.toArray ss tm H n:=fun j hj=>by
  obtain⟨o,s,tmj,Hj,g⟩:=h2 j (by rw[htl];exact hj)
  rw[a1n]at g
  exact⟨o,s,tmj,Hj,g⟩
 rw[htl,a1n]at h3 h4
 have hr':RelSt E ⟨tm,H⟩ a {w with drawn:=w.drawn+1} ρ:=hr.below ⟨rfl,rfl,rfl,a0n _,fun _ _=>rfl⟩
 have hrep:∀i,(Array.replicate l.toArray.size false).getD i false=false:=fun i=>getD_replicate_false _ _
 have hcnt:cnt (Array.replicate l.toArray.size false) n=n:=by
  have:∀k,cnt (Array.replicate l.toArray.size false) k=k:=fun k=>by
   induction k with
   |zero=>rfl
   |succ k ih=>simp only[cnt,hrep,ih];simp
  exact this n
 refine wp_mono (wp_region_any hm ?_ (Q:=fun e a' w'=>e=.normal/\∃st' ρ',Q .normal st'/\RelSt E st' a' w' ρ')) ?_
 ·have key:=U7 (ops:=l.toArray) (tr:=ss) (n:=n) (E:=E) F hB hE (Q:=fun e a' w'=>e=.normal/\∃st' ρ',Q .normal st'/\RelSt E st' a' w' ρ') (l:=l.drop n) (fun j=>by simp[a2r]) (by simp) (fun a w ⟨tm',H',ρ',g1,g2,g3⟩=>by
   have g4:RelSt E ⟨N0 (l.take n) ss tm,Qo ss H⟩ a w ρ':=(g1.weaken _ fun t x hx=>by rw[g2 t,<-h3 t];exact hx).sameH fun b=>by rw[h4 b,<-g3 b]
   exact hK.out E a w ρ' hE g4) n _ a {w with drawn:=w.drawn+1} hcnt ⟨by simp,(fun j oj _ hl=>by rw[hrep]at hl;cases hl),(fun t _ ht=>getD_in (by simpa using ht) (hrep t))⟩ ⟨tm,H,ρ,hr',fun t=>?_,fun b=>?_⟩
  ·rw[show n+(l.toArray.size-n)=l.toArray.size by simp;omega]at key
   exact key
  ·rw[J4 (k:=0) n (by omega) fun i _ _ _=>hrep i];rfl
  ·exact(Gk n fun i _ _ _=>hrep i).symm
 ·rintro e a' w' ⟨rfl,st',ρ',g1,g2⟩
  exact⟨st',ρ',g1,g2⟩
end
section
variable {P:Program}{N:Nat}{ops:Array Oper}{m:Option Nat}{K:Tm->AH->Prop}{tm tm':Tm}{H:AH}{rest:List Oper}{ty:TypeId}{pos:String}{af:Array Edge}{d:Nat}{t e:TypeId}{x y z:Operand}
def A6u(P:Program)(fn:Func)(rows:List (List Lf))(n:Nat)(e:Exit)(st:St):Prop:=(e=.normal\/e=.ret)/\
 ((∃v,ResL P st fn.results.toList [.val v]/\v=.slice none 0 0/\rows=[])\/(ResL P st fn.results.toList [.sl []]/\rows=[])\/∃b,ResL P st fn.results.toList [.own b 0 rows.length n]/\st.H.at b=.live (rows.flatten.map .lf))
theorem FnOwn.of{f:FuncId}{fn:Func}{c:Code}{args:List AV}{rows:List (List Lf)}{n:Nat}{N:Nat}(hf:P.funcs[f]?=some fn)(hnt:fn.ntmps=N)(hb:fn.body=some c)(hn:(fn.name== "runtime.NumGoroutine")=false)(hN:Nat.ble args.length N=true)
  (h:T P N c ⟨Ak 0 args,[]⟩ (A6u P fn rows n)):FnOwn P f args rows n:=by
 subst hnt
 refine⟨⟨fn,hf,hn,by rw[hb];rfl⟩,fun L w vs hG hL hl hv=>?_⟩
 have hN':=a0c hN
 refine calls_of_wp hf hb ?_
 let E:Env:={N:=fn.ntmps,L:=L,O:=fun _=>False,w0:=w,good:=fun w' hf=>hG.below (Fr.below hf)}
 have hsz:(vs.toArray++Array.replicate (fn.ntmps-vs.toArray.size) undef).size=fn.ntmps:=by simp;omega
 have hst:RelSt E ⟨Ak 0 args,[]⟩ {tmps:=vs.toArray++Array.replicate (fn.ntmps-vs.toArray.size) undef,defers:=[]} w Ba:=by
  refine⟨hsz,rfl,fun t x hx=>?_,⟨fun b _=>rfl,(fun b h=>by simp[AH.at]at h),(fun b cs h=>by simp[AH.at]at h),(fun b cs h=>by simp[AH.at]at h),(fun b b' k o o' h=>by cases h),ExtOk.nil _ _ _⟩,Fr.refl _ _,(fun b k o h=>by cases h),hL⟩
  obtain⟨_,hx⟩:=Is _ _ _ _ hx
  rw[a6e]at hx
  have ht:t<args.length:=(a0f.1 hx).1
  refine⟨by show t<fn.ntmps;omega,?_⟩
  have hu:vs[t]?=some (vs[t]'(by omega)):=a0b _
  have:(vs.toArray++Array.replicate (fn.ntmps-vs.toArray.size) undef).getD t undef=vs[t]'(by omega):=by
   rw[a0r,a1r (by simp;omega)]
   simp[hu]
  show RelV w L Ba x ((vs.toArray++Array.replicate (fn.ntmps-vs.toArray.size) undef).getD t undef)
  rw[this]
  exact hv t x _ hx hu
 refine wp_mono (h.out E _ w Ba rfl hst) ?_
 rintro e a' w' ⟨st',ρ',⟨he,hres⟩,hr'⟩
 have hb':Below w.heap.size w w':=Fr.below hr'.fr
 have one:∀{x:AV},ResL P st' fn.results.toList [x]->∃u,(results fn a'.tmps).run P w'=.ok u w'/\RelV w' L ρ' x u:=fun {x} hx=>by
  obtain⟨us,h1,h2,h3⟩:=hx.run hr'
  have hres:=Ht (fn:=fn) h1
  match us,h2,h3,hres with
  |[u],_,h3,hres=>exact⟨u,hres,h3 0 x u rfl rfl⟩
 have fin:∃u,(results fn a'.tmps).run P w'=.ok u w'/\((rows=[]/\RelV w' L Ba (.sl []) u)\/
   ∃k o c el lo hi cap,u=.slice (some ⟨k,o,none⟩) rows.length cap/\w.heap.size<=k/\w'.heap[k]?=some (.cells c el (lo,hi))/\hi<=lo/\rows.length<=cap/\o+cap*n<=c.size/\∀(j:Nat)(x:Lf),rows.flatten[j]?=some x->∃u,c[o+j]?=some u/\RelL w' (fun i=>L i\/i=k) x u):=by
  rcases hres with⟨v,hx,rfl,hrows⟩|⟨hx,hrows⟩|⟨b,hx,hlive⟩
  ·obtain⟨u,h1,h2⟩:=one hx
   have:=h2.val_eq
   subst this
   exact⟨_,h1,.inl ⟨hrows,.lf _ _ .slnil⟩⟩
  ·obtain⟨u,h1,h2⟩:=one hx
   refine⟨u,h1,.inl ⟨hrows,.lf _ _ (h2.lf_out.less fun k hk=>.inl ((F2 L k).1 hk))⟩⟩
  ·obtain⟨u,h1,h2⟩:=one hx
   obtain⟨k,o,c,el,lo,hi,g1,g2,g3,g4,g5,g6⟩:=hr'.H.live b _ hlive
   obtain⟨cap,e2,n2,hveq,hc,hsh,hfit⟩:=h2.own_out k o g1
   have hk:w.heap.size<=k:=by
    rcases hr'.mineO g1 with h|h
    ·exact h.elim
    ·exact h
   have hn2:n2=c.size:=by
    rw[Dh g2]at hsh
    simp only[a0h,a1p]at hsh
    exact hsh.2.symm
   rw[a3b]at hveq hfit
   refine⟨u,h1,.inr ⟨k,o,c,el,lo,hi,cap,hveq,hk,g2,g3,hc,by rw[<-hn2];exact hfit,fun j x hj=>?_⟩⟩
   obtain⟨v,q1,q2⟩:=g6 j (.lf x) (by rw[a0d,hj];rfl)
   refine⟨v,q1,q2.lf_out.less fun i hi=>?_⟩
   rcases hi with hi|hi
   ·exact .inl hi
   ·exact .inr ⟨b,o,hi▸g1⟩
 obtain⟨u,h1,h2⟩:=fin
 rcases he with rfl|rfl
 ·exact⟨hr'.defers,_,h1,_,rfl,hb',h2⟩
 ·exact⟨hr'.defers,_,h1,_,rfl,hb',h2⟩
theorem p3b(b:Nat){n:Nat}{f:FuncId}{xs:Array Operand}{ts:Array TypeId}{ys:List AV}{rows:List (List Lf)}(hp:FnOwn P f ys rows n)(hx:evs (evT tm) xs.toList=some ys)(ht:ys.all AV.tree=true)(hb:(H.at b).idle=true)(htm:tm.clearO b=some tm')(hH:AH.clear b 0 H=true)(hN:LN d N)
  (hr:∀row∈rows,row.length=n)
  (h1:rows=[]->Reg none P N ops rest ((d,.sl [])::tm) H K)
  (h2:Reg none P N ops rest ((d,.own b 0 rows.length n)::tm') (H.put b (.live (rows.flatten.map .lf))) K):Reg none P N ops (⟨some d,.call ⟨.value (.func f),xs,ts⟩,ty,pos,af,none⟩::rest) tm H K:=by
 refine⟨fun E a w ρ hE hR=>?_⟩
 replace h2:=h2.out
 refine wpList_plain rfl fun K' hK=>?_
 have hN':=a0c hN
 obtain⟨g1,g2⟩:=Ff _ _ hx
 have hrun:(execOp a.eval ⟨some d,.call ⟨.value (.func f),xs,ts⟩,ty,pos,af,none⟩).run P w=.ok (.enter f (xs.toList.map a.eval).toArray) w:=by
  have:(execOp a.eval ⟨some d,.call ⟨.value (.func f),xs,ts⟩,ty,pos,af,none⟩).run P w=(callFunc f (#[]++xs.map a.eval++ #[])).run P w:=by simp[execOp,resolve,Act.eval,Deferred.ofValue,invoke]
  rw[this,hp.1.run]
  simp only[a5o,a5a,true_and,and_true]
  apply a6m
  simp
 unfold Oper.wp
 rw[hrun]
 refine(hp.2 (Fb E.L ρ) w (xs.toList.map a.eval) hR.glob hR.fb_lt (by simp[<-g1]) fun i x v hx hv=>?_).mono ?_
 ·refine RelV.bare ?_ (a0l.1 ht x (a0a hx))
  obtain⟨z,h5,h6⟩:=g2 i x hx
  rw[a0d,h5]at hv
  simp at hv
  subst hv
  exact hR.ev (by rw[Am];exact h6)
 ·rintro e w' ⟨v,rfl,hbel,hv⟩
  have hR':=hR.below hbel
  have nilCase:rows=[]->RelV w' (Fb E.L ρ) Ba (.sl []) v->K' (a.put (some d) v) w':=fun h0 hv0=>hK _ _ ((h1 h0).out E _ w' ρ hE (hR'.put (by rw[hE];exact hN') hv0.dress))
  rcases hv with⟨h0,hv0⟩|⟨k,o,c,el,lo,hi,cap,rfl,hk,hw,hlo,hcap,hsz,hc⟩
  ·exact nilCase h0 hv0
  ·have hlen:rows.length*n<=cap*n:=a3k _ hcap
   obtain⟨s1,s2⟩:=hR.regrow (tm':=tm') (cells':=rows.flatten.map AV.lf) (w':=w') (k':=k) (o':=o) htm hH (p1r hb) hw hlo
    (by rw[a0e,Bc rows hr];omega) (.inr hk) (fun k2 hk2 _=>hbel.block k2 hk2) (fun k2 x hx=>(Gl (L:=E.L) (ρ:=ρ) hbel).shape k2 x hx) hbel.os hbel.tape hbel.output hbel.size fun hla j z hj=>by
     rw[a0d]at hj
     cases hf:rows.flatten[j]? with
     |none=>rw[hf]at hj;cases hj
     |some x=>
      rw[hf]at hj
      simp only[a1g,a0h]at hj
      subst hj
      obtain⟨u,p1,p2⟩:=hc j x hf
      refine⟨u,p1,.lf _ _ (p2.less fun i hi=>?_)⟩
      rcases hi with hi|⟨b',o',hi⟩
      ·exact .inl (.inl hi)
      ·unfold Pl.upd at hi
       by_cases e':b'=b
       ·rw[if_pos e']at hi
        simp only[a0h,a1p]at hi
        exact .inr hi.1.symm
       ·rw[if_neg e']at hi
        exact .inl (.inr ⟨b',o',hi⟩)
   exact hK _ _ (h2 E _ w' _ hE (s2.put (by rw[hE];exact hN') (K1 hcap (Dh hw) hsz)))

/-! ### Closures -/
def fnOf:AV->Option (FuncId×List AV)
 | .fn (.func g) [] caps=>some (g,caps)
 | .lf (.fn (.func g) caps)=>some (g,caps.map .rop)
 |_=>none
theorem RelV.fnOf{w:World}{L:Nat->Prop}{ρ:Pl}{x:AV}{v:Value}{g:FuncId}{caps:List AV}(h:RelV w L ρ x v)(hf:fnOf x=some (g,caps)):∃vs:List Value,v=.func (.func g) #[] vs.toArray/\caps.length=vs.length/\∀(i:Nat)(y:AV)(u:Value),caps[i]?=some y->vs[i]?=some u->RelV w L ρ y u:=by
 cases x with
 |fn f fs cs=>
  obtain⟨us,vs,rfl,h1,h2,h3,h4⟩:=h.fn_out
  cases fs with
  |cons y ys=>cases f<;>simp[Go.Proofs.YtcaicpnepfjcmaaGreat.fnOf]at hf
  |nil=>
   cases f<;>simp only[Go.Proofs.YtcaicpnepfjcmaaGreat.fnOf,a0h,a1p,reduceCtorEq]at hf
   obtain⟨rfl,rfl⟩:=hf
   simp only[a0m]at h1
   obtain rfl:us=[]:=a0z h1.symm
   exact⟨vs,rfl,h2,h4⟩
 |lf y=>
  cases y with
  |fn f cs=>
   obtain⟨ads,V,rfl,h1,h2,h3,h4⟩:=h.lf_out.fn_out
   cases f<;>simp only[Go.Proofs.YtcaicpnepfjcmaaGreat.fnOf,a0h,a1p,reduceCtorEq]at hf
   obtain⟨rfl,rfl⟩:=hf
   refine⟨_,rfl,by simpa using h1,fun i y u hy hu=>?_⟩
   rw[a0d]at hy hu
   cases hcs:cs[i]? with
   |none=>rw[hcs]at hy;cases hy
   |some c=>
    cases had:ads[i]? with
    |none=>rw[had]at hu;cases hu
    |some ad=>
     rw[hcs]at hy
     rw[had]at hu
     simp only[a1g,a0h]at hy hu
     subst hy hu
     exact .rop c ad (V i) (h2 i ad had) (fun j x hj=>h3 i c ad j x hcs had hj) fun j x hj=>h4 i c j x hcs hj
  |_=>simp[Go.Proofs.YtcaicpnepfjcmaaGreat.fnOf]at hf
 |_=>simp[Go.Proofs.YtcaicpnepfjcmaaGreat.fnOf]at hf
theorem OpV.callFV{o:Oper}{ev:Operand->Option AV}{Hf:Nat->HB}{g:FuncId}{f:Operand}{fv:AV}{xs:Array Operand}{ts:Array TypeId}{ys caps zs:List AV}{r:AV}{H0:AH}(hp:Fn0 P g zs r)(ho:o.op=.call ⟨.value f,xs,ts⟩)(hf:ev f=some fv)(hfn:fnOf fv=some (g,caps))(hx:evs ev xs.toList=some ys)(hs:∀b cs,H0.at b=.live cs->Hf b=.live cs)(hz:Out2L H0 (ys++caps) zs)(hr:r.plain=true):OpV P o ev Hf r none:=fun E st a w ρ K Q hrs he hH hn hK=>by
 obtain⟨g1,g2⟩:=Ff _ _ hx
 have hfv:=hrs.ev (he f (by rw[ho];simp[Op.operands,Call.operands]) _ hf)
 obtain⟨vs,h1,h3,h4⟩:=hfv.fnOf hfn
 have hrun:(execOp a.eval o).run P w=.ok (.enter g (xs.toList.map a.eval++vs).toArray) w:=by
  have:(execOp a.eval o).run P w=(callFunc g (#[]++xs.map a.eval++vs.toArray)).run P w:=by simp[execOp,ho,resolve,h1,Deferred.ofValue,invoke]
  rw[this,hp.1.run]
  simp only[a5o,a5a,true_and,and_true]
  apply a6m
  simp
 have hRR:∀{x y:AV}{v:Value},Out2 H0 x y->RelV w E.L ρ x v->RelV w E.L Ba y v:=fun {x y v} h hv=>by
  refine(h.mono (fun b cs hb=>hH b cs (hs b cs hb))).rel hrs.H hv
 unfold Oper.wp
 rw[hrun]
 obtain⟨k1,k2⟩:=hz.at
 refine(hp.2 E.L w (xs.toList.map a.eval++vs) hrs.glob (fun k hk=>hrs.fb_lt k (.inl hk)) (by rw[<-k1];simp[<-g1,h3]) fun i x v hx hv=>?_).mono ?_
 ·obtain⟨y,hy,hyx⟩:=k2 i x hx
  refine hRR hyx ?_
  rcases a0y i ys.length with hi|hi
  ·rw[a1k hi]at hy
   rw[a1k (by rw[a0e,g1];exact hi)]at hv
   obtain⟨z,h5,h6⟩:=g2 i y hy
   rw[a0d,h5]at hv
   simp at hv
   subst hv
   refine hrs.ev (he z ?_ y h6)
   rw[ho]
   exact a5t.2 (.inr (a4p.1 (a0a h5)))
  ·rw[a1h hi]at hy
   rw[a1h (by rw[a0e,g1];exact hi),a0e,g1]at hv
   exact h4 _ _ _ hy hv
 ·rintro e w' ⟨v,rfl,hv,hb⟩
  exact hK w' ρ v (hrs.below hb) (hv.plain hr)
theorem S.callFV{g:FuncId}{f:Operand}{fv:AV}{xs:Array Operand}{ts:Array TypeId}{ys caps zs:List AV}{r:AV}(hf:evT tm f=some fv)(hfn:fnOf fv=some (g,caps))(hx:evs (evT tm) xs.toList=some ys)(hp:Fn0 P g zs r)(hz:Out2L (N3 m H) (ys++caps) zs)(hr:r.plain=true)(hN:LN d N)(h:Reg m P N ops rest ((d,r)::tm) H K):Reg m P N ops (⟨some d,.call ⟨.value f,xs,ts⟩,ty,pos,af,none⟩::rest) tm H K:=
 S.val (OpV.callFV hp rfl hf hfn hx (fun b cs hb=>A1k hb) hz hr) hN h

/-! ### Two integers -/
class HasEq2(P:Program)(t:TypeId):Prop where
 out:∀(o:Oper)(η:Operand->Value)(w:World)(x y:Operand)(u:TypeId)(a b c d:Int),o.op=.binOp .eql t x y u->η x=.agg #[.int .i64 a,.int .i64 b]->η y=.agg #[.int .i64 c,.int .i64 d]->(execOp η o).run P w=.ok (.value (.bool (decide (a=c/\b=d)))) w
theorem p3k{u:TypeId}{a b c e':Int}[he:HasEq2 P t](hx:evT tm x=some (.agg [.val (.int .i64 a),.val (.int .i64 b)]))(hy:evT tm y=some (.agg [.val (.int .i64 c),.val (.int .i64 e')]))(hN:LN d N)(h:Reg m P N ops rest ((d,.val (.bool (decide (a=c/\b=e'))))::tm) H K):Reg m P N ops (⟨some d,.binOp .eql t x y u,ty,pos,af,none⟩::rest) tm H K:=by
 refine S.val (OpV.mk fun L w ρ η hη hH=>?_) hN h
 have h1:=(hη x (by simp[Op.operands]) _ hx).flat (u:=.agg #[.int .i64 a,.int .i64 b]) rfl
 have h2:=(hη y (by simp[Op.operands]) _ hy).flat (u:=.agg #[.int .i64 c,.int .i64 e']) rfl
 exact⟨_,he.out _ η w x y u a b c e' rfl h1 h2,Ab _⟩
theorem S.max2{k:IntKind}{a b:Int}{ts:Array TypeId}(hx:evT tm x=some (.val (.int k a)))(hy:evT tm y=some (.val (.int k b)))(hN:LN d N)(h:Reg m P N ops rest ((d,.val (.int k (max a b)))::tm) H K):Reg m P N ops (⟨some d,.call ⟨.builtin .max, #[x,y],ts⟩,ty,pos,af,none⟩::rest) tm H K:=by
 refine S.val (OpV.mk fun L w ρ η hη hH=>?_) hN h
 have h1:=(hη x (by simp[Op.operands,Call.operands]) _ hx).val_eq
 have h2:=(hη y (by simp[Op.operands,Call.operands]) _ hy).val_eq
 refine⟨_,?_,Ab _⟩
 have:(if b>a then b else a)=max a b:=by omega
 simp[execOp,resolve,invoke,builtin,Builtin.max_,Builtin.max2,h1,h2]
 omega
theorem S.min2{k:IntKind}{a b:Int}{ts:Array TypeId}(hx:evT tm x=some (.val (.int k a)))(hy:evT tm y=some (.val (.int k b)))(hN:LN d N)(h:Reg m P N ops rest ((d,.val (.int k (min a b)))::tm) H K):Reg m P N ops (⟨some d,.call ⟨.builtin .min, #[x,y],ts⟩,ty,pos,af,none⟩::rest) tm H K:=by
 refine S.val (OpV.mk fun L w ρ η hη hH=>?_) hN h
 have h1:=(hη x (by simp[Op.operands,Call.operands]) _ hx).val_eq
 have h2:=(hη y (by simp[Op.operands,Call.operands]) _ hy).val_eq
 refine⟨_,?_,Ab _⟩
 simp[execOp,resolve,invoke,builtin,Builtin.min_,Builtin.min2,h1,h2]
 omega
end
def Ns(P:Program):List Field->Nat->Nat->Bool
 |[],off,tot=>Nat.beq off tot
 |f::fs,off,tot=>Nat.beq f.offset off&&Ns P fs (off+P.cellsOf f.type) tot
def okT(P:Program):Nat->TypeId->Bool
 |0,_=>false
 |n+1,t=>match P.underlying t with
  |some .bool=>true
  |some (.int _)=>true
  |some .string=>true
  |some (.slice e)=>Nat.ble 1 (P.cellsOf e)&&okT P n e
  |some (.struct fs)=>Ns P fs.toList 0 (P.cellsOf t)&&fs.toList.all fun f=>okT P n f.type
  |some (.array m e)=>Nat.beq (m*P.cellsOf e) (P.cellsOf t)&&okT P n e
  |_=>false
def Xd(C:TypeId->List Lf->Prop):List Field->List Lf->Prop
 |[],row=>row=[]
 |f::fs,row=>∃r s,row=r++s/\C f.type r/\Xd C fs s
def Xe(C:List Lf->Prop):Nat->List Lf->Prop
 |0,row=>row=[]
 |k+1,row=>∃r s,row=r++s/\C r/\Xe C k s
def Bd(P:Program):Nat->TypeId->List Lf->Prop
 |0,_,_=>False
 |n+1,t,row=>match P.underlying t with
  |some .bool=>∃b,row=[.val (.bool b)]
  |some (.int k)=>∃i,row=[.val (.int k i)]/\k.min<=i/\i<=k.max
  |some .string=>∃s,row=[.val (.string s)]/\s.size<=reachBytes
  |some (.slice e)=>∃rows,row=[.sl rows]/\rows.length<=maxLen/\rows.length*P.bytesOf e<=reachBytes/\∀r∈rows,Bd P n e r
  |some (.struct fs)=>Xd (Bd P n) fs.toList row
  |some (.array m e)=>Xe (Bd P n e) m row
  |_=>False
def RowRel(w:World)(row:List Lf)(cs:List Value)(off:Nat):Prop:=∀(j:Nat)(y:Lf)(v:Value),row[j]?=some y->cs[off+j]?=some v->RelL w (fun _=>False) y v
theorem Xp{α β:Type}{f:α->Option β}{a:α}{l:List α}{r:List β}(h:(a::l).mapM f=some r):∃y ys,f a=some y/\l.mapM f=some ys/\r=y::ys:=by
 rw[a8f]at h
 cases e:f a with
 |none=>simp[e]at h
 |some y=>
  cases e2:l.mapM f with
  |none=>simp[e,e2]at h
  |some ys=>
   simp[e,e2]at h
   exact⟨y,ys,rfl,rfl,h.symm⟩
theorem A5m{α β:Type}{f:α->Option β}:∀{l:List α}{r:List β},l.mapM f=some r->r.length=l.length/\∀(i:Nat)(x:α),l[i]?=some x->∃y,f x=some y/\r[i]?=some y
 |[],r,h=>by simp at h;subst h;simp
 |a::l,r,h=>by
  obtain⟨y,ys,h1,h2,rfl⟩:=Xp h
  obtain⟨g1,g2⟩:=A5m h2
  refine⟨by simp[g1],fun i x hx=>?_⟩
  cases i with
  |zero=>simp at hx;subst hx;exact⟨y,h1,rfl⟩
  |succ i=>simpa using g2 i x (by simpa using hx)
theorem T9{α:Type}{p:Nat->α->Prop}:∀(n:Nat),(∀i,i<n->∃r,p i r)->∃rows:List α,rows.length=n/\∀(i:Nat)(r:α),rows[i]?=some r->p i r
 |0,_=>⟨[],rfl,by simp⟩
 |n+1,h=>by
  obtain⟨rows,h1,h2⟩:=T9 n fun i hi=>h i (by omega)
  obtain⟨r,hr⟩:=h n (by omega)
  refine⟨rows++[r],by simp[h1],fun i x hx=>?_⟩
  rcases a0y i n with hi|hi
  ·rw[a1k (by omega)]at hx
   exact h2 i x hx
  ·rw[a1h (by omega),h1]at hx
   have hi':i=n:=by
    rcases a0y (i-n) 1 with h|h
    ·omega
    ·rw[a0v (by simpa using h)]at hx;cases hx
   subst hi'
   simp at hx
   subst hx
   exact hr
section
variable {P:Program}{w:World}{m:Nat}{H:Type}{g:TypeId->List Value->Option (DataW H×List MemPlace)}
def A6v(P:Program)(w:World)(m:Nat)(g:TypeId->List Value->Option (DataW H×List MemPlace)):Prop:=
 ∀t cs x,okT P m t=true->g t cs=some x->((x.1.weights P t).all (· <=reachBytes))=true->∃row,Bd P m t row/\row.length=cs.length/\RowRel w row cs 0
theorem Yf:∀(fs:List Field)(off tot:Nat),Ns P fs off tot=true->off<=tot
 |[],off,tot,h=>Nat.le_of_eq (a2b h)
 |f::fs,off,tot,h=>by
  simp only[Ns,a0w]at h
  have:=Yf fs _ _ h.2
  omega
theorem RowRel.append{row s:List Lf}{cs:List Value}{off:Nat}(h:RowRel w row ((cs.drop off).take row.length) 0)(k:RowRel w s cs (off+row.length)):RowRel w (row++s) cs off:=fun j y v hy hv=>by
 rcases a0y j row.length with hj|hj
 ·rw[a1k hj]at hy
  exact h j y v hy (by rw[a1n,a1o hj,a2r];exact hv)
 ·rw[a1h hj]at hy
  exact k (j-row.length) y v hy (by rw[show off+row.length+(j-row.length)=off+j by omega];exact hv)
theorem Tc(ih:A6v P w m g){cs:List Value}{tot:Nat}(hcs:cs.length=tot):∀(fs:List Field)(off:Nat)(xs:List (DataW H×List MemPlace)),Ns P fs off tot=true->(fs.all fun f=>okT P m f.type)=true->xs.length=fs.length->(∀(i:Nat)(f:Field),fs[i]?=some f->g f.type ((cs.drop f.offset).take (P.cellsOf f.type))=xs[i]?)->
  ((DataW.weightsEach P (fs.map (·.type)) (xs.map (·.1))).all (· <=reachBytes))=true->∃row,Xd (Bd P m) fs row/\off+row.length=tot/\RowRel w row cs off
 |[],off,xs,hc,_,_,h,_=>⟨[],rfl,a2b hc,fun j y v hy=>by simp at hy⟩
 |f::fs,off,[],hc,ho,hl,h,hw=>by simp at hl
 |f::fs,off,x::ys,hc,ho,hl,h,hw=>by
  simp only[Ns,a0w]at hc
  simp only[a6r,a0w]at ho
  have h1:=h 0 f rfl
  have h2:∀(i:Nat)(f:Field),fs[i]?=some f->g f.type ((cs.drop f.offset).take (P.cellsOf f.type))=ys[i]?:=fun i f hf=>by simpa using h (i+1) f (by simpa using hf)
  simp only[a2f]at h1
  simp only[a2g,DataW.weightsEach,a2k,a0w]at hw
  have hoff:=a2b hc.1
  have hle:=Yf _ _ _ hc.2
  obtain⟨s,k1,k2,k3⟩:=Tc ih hcs fs (off+P.cellsOf f.type) ys hc.2 ho.2 (by simpa using hl) h2 hw.2
  obtain⟨r,j1,j2,j3⟩:=ih f.type _ x ho.1 h1 hw.1
  rw[hoff]at j2 j3
  have hlen:r.length=P.cellsOf f.type:=by rw[j2,a0x,a4z];omega
  refine⟨r++s,⟨r,s,rfl,j1,k1⟩,by rw[a0s];omega,RowRel.append (by rw[hlen];exact j3) (by rw[hlen];exact k3)⟩
theorem Ve(ih:A6v P w m g){cs:List Value}{e:TypeId}(he:okT P m e=true){n:Nat}(hcs:cs.length=n*P.cellsOf e):∀(k s:Nat)(xs:List (DataW H×List MemPlace)),s+k=n->xs.length=k->(∀i,i<k->g e ((cs.drop ((s+i)*P.cellsOf e)).take (P.cellsOf e))=xs[i]?)->
  ((DataW.weightsAll P e (xs.map (·.1))).all (· <=reachBytes))=true->∃row,Xe (Bd P m e) k row/\row.length=k*P.cellsOf e/\RowRel w row cs (s*P.cellsOf e)
 |0,s,xs,hk,_,h,_=>⟨[],rfl,by simp,fun j y v hy=>by simp at hy⟩
 |k+1,s,[],hk,hl,h,hw=>by simp at hl
 |k+1,s,x::ys,hk,hl,h,hw=>by
  have h1:=h 0 (by omega)
  have h2:∀i,i<k->g e ((cs.drop ((s+1+i)*P.cellsOf e)).take (P.cellsOf e))=ys[i]?:=fun i hi=>by
   have:=h (i+1) (by omega)
   rw[show s+(i+1)=s+1+i by omega]at this
   simpa using this
  simp only[a3b,a2f]at h1
  simp only[a2g,DataW.weightsAll,a2k,a0w]at hw
  obtain⟨t,k1,k2,k3⟩:=Ve ih he hcs k (s+1) ys (by omega) (by simpa using hl) h2 hw.2
  obtain⟨r,j1,j2,j3⟩:=ih e _ x he h1 hw.1
  have hb:(s+1)*P.cellsOf e<=n*P.cellsOf e:=a3k _ (by omega)
  rw[a7m]at hb k3
  have hlen:r.length=P.cellsOf e:=by rw[j2,a0x,a4z];omega
  refine⟨r++t,⟨r,t,rfl,j1,k1⟩,by rw[a0s,a7m];omega,RowRel.append (by rw[hlen];exact j3) (by rw[hlen];exact k3)⟩
theorem Qf:∀{e:TypeId}{ds:List (DataW H)}{i:Nat}{d:DataW H},((DataW.weightsAll P e ds).all (· <=reachBytes))=true->ds[i]?=some d->((d.weights P e).all (· <=reachBytes))=true
 |e,[],i,d,_,h=>by simp at h
 |e,x::ds,0,d,hw,h=>by
  simp at h;subst h
  simp only[DataW.weightsAll,a2k,a0w]at hw
  exact hw.1
 |e,x::ds,i+1,d,hw,h=>by
  simp only[DataW.weightsAll,a2k,a0w]at hw
  exact Qf hw.2 (by simpa using h)
theorem A0x{a:Addr}{n:Nat}{l:List Value}(h:w.cells? 0 a n=some l):l.length=n/\∀j,j<n->∃v,l[j]?=some v/\w.cell? (a.add j)=some v:=by
 unfold World.cells? at h
 rw[if_pos (a0k _)]at h
 obtain⟨h1,h2⟩:=A5m h
 rw[a3o]at h1
 refine⟨h1,fun j hj=>?_⟩
 obtain⟨v,h3,h4⟩:=h2 j j (by simp[hj])
 exact⟨v,h4,h3⟩
theorem A7b(ih:A6v P w m g){a:Addr}{len cap:Nat}{e:TypeId}(he:okT P m e=true)(hsz:1<=P.cellsOf e)(hc:len<=cap){elems rest:List (DataW H×List MemPlace)}
  (l1:elems.length=len) (m1:∀i,i<len->(w.cells? 0 (a.add (i*P.cellsOf e)) (P.cellsOf e)).bind (g e)=elems[i]?) (l2:rest.length=cap-len) (m2:∀j,j<cap-len->(w.cells? 0 (a.add ((len+j)*P.cellsOf e)) (P.cellsOf e)).bind (g e)=rest[j]?)
  (hw:((DataW.weightsAll P e (elems.map (·.1))).all (· <=reachBytes))=true):∃rows,rows.length=len/\(∀r∈rows,Bd P m e r)/\RelL w (fun _=>False) (.sl rows) (.slice (some a) len cap):=by
 have spot:a.spot=none\/cap=0:=by
  by_cases h0:cap=0
  ·exact .inr h0
  ·left
   have:∃l,w.cells? 0 (a.add (0*P.cellsOf e)) (P.cellsOf e)=some l:=by
    rcases a0y 0 len with hl|hl
    ·have hy:=m1 0 hl
     rw[a0b (by omega)]at hy
     cases hh:w.cells? 0 (a.add (0*P.cellsOf e)) (P.cellsOf e)with
     |none=>rw[hh]at hy;cases hy
     |some l=>exact⟨l,rfl⟩
    ·have hl0:len=0:=by omega
     subst hl0
     have hy:=m2 0 (by omega)
     rw[a0b (by omega),a1n]at hy
     cases hh:w.cells? 0 (a.add (0*P.cellsOf e)) (P.cellsOf e)with
     |none=>rw[hh]at hy;cases hy
     |some l=>exact⟨l,rfl⟩
   obtain⟨l,hl⟩:=this
   obtain⟨_,hat⟩:=A0x hl
   obtain⟨v,_,hv⟩:=hat 0 (by omega)
   rw[b2a]at hv
   have e0:(a.add 0).add 0=a:=by simp[Addr.add]
   rw[e0]at hv
   unfold World.cell? at hv
   cases hs:a.spot with
   |none=>rfl
   |some s=>
    split at hv
    ·rw[hs]at hv;simp at hv
    ·cases hv
 have each:∀i,i<len->∃r:List Lf,Bd P m e r/\r.length=P.cellsOf e/\∀(j:Nat)(y:Lf),r[j]?=some y->∃v,w.cell? ⟨a.block,a.off+(i*P.cellsOf e+j),none⟩=some v/\RelL w (fun _=>False) y v:=fun i hi=>by
  have hx:=m1 i hi
  have hxe:elems[i]?=some (elems[i]'(by omega)):=a0b _
  rw[hxe]at hx
  generalize elems[i]'(by omega)=x at hx hxe
  cases hh:w.cells? 0 (a.add (i*P.cellsOf e)) (P.cellsOf e)with
  |none=>rw[hh]at hx;cases hx
  |some l=>
   rw[hh]at hx
   simp only[a1v]at hx
   obtain⟨hl,hat⟩:=A0x hh
   obtain⟨r,c1,c2,c3⟩:=ih e l x he hx (Qf hw (i:=i) (by rw[a0d,hxe];rfl))
   refine⟨r,c1,by omega,fun j y hj=>?_⟩
   have hjl:j<P.cellsOf e:=by have:=(a0f.1 hj).1;omega
   obtain⟨v,h3,h4⟩:=hat j hjl
   have hs:=spot.resolve_right (by omega)
   rw[Bf hs,Bf rfl]at h4
   exact⟨v,by rw[<-a1t];exact h4,c3 j y v hj (by rw[a1n];exact h3)⟩
 obtain⟨rows,hlen,hrows⟩:=T9 len each
 refine⟨rows,hlen,fun r hr=>?_,?_⟩
 ·obtain⟨i,hi⟩:=a2x hr
  exact(hrows i r hi).1
 ·have key:=RelL.sl (w:=w) (F:=fun _=>False) rows a cap (fun i j=>(w.cell? ⟨a.block,a.off+(i*P.cellsOf e+j),none⟩).getD undef) spot (by omega) (fun i row j x hi hj=>?_) fun i row j x hi hj=>?_
  ·rw[hlen]at key;exact key
  ·obtain⟨_,r2,r3⟩:=hrows i row hi
   obtain⟨v,h3,_⟩:=r3 j x hj
   refine⟨fun h=>h,?_⟩
   rw[r2,h3];rfl
  ·obtain⟨_,r2,r3⟩:=hrows i row hi
   obtain⟨v,h3,h4⟩:=r3 j x hj
   rw[h3];exact h4
theorem J1{enc:TypeId×Value->H}{held:Bool}:∀(m n:Nat),A6v P w m (fun t cs=>DataW.trod enc P w 0 (fun _=>true) held n t cs)
 |0,n=>fun t cs x ho _ _=>by simp[okT]at ho
 |m+1,n=>fun t cs x ho h hw=>by
  simp only[okT]at ho
  unfold Bd
  split at ho
  ·rename_i hu
   obtain⟨b,rfl,rfl⟩:=DataW.trod_bool hu h
   exact⟨_,⟨b,rfl⟩,rfl,fun j y v hy hv=>by
    cases j with
    |zero=>simp at hy hv;subst hy hv;exact .val _
    |succ j=>simp at hy⟩
  ·rename_i k hu
   obtain⟨i,rfl,rfl,hwf⟩:=DataW.trod_int hu h
   refine⟨_,⟨i,rfl,?_⟩,rfl,fun j y v hy hv=>by
    cases j with
    |zero=>simp at hy hv;subst hy hv;exact .val _
    |succ j=>simp at hy⟩
   simpa[Lit.wf]using hwf
  ·rename_i hu
   obtain⟨s,rfl,rfl,hs⟩:=DataW.trod_string hu h
   refine⟨_,⟨s,rfl,?_⟩,rfl,fun j y v hy hv=>by
    cases j with
    |zero=>simp at hy hv;subst hy hv;exact .val _
    |succ j=>simp at hy⟩
   simp[DataW.weights]at hw
   exact hw
  ·rename_i e hu
   simp only[a0w]at ho
   rcases DataW.trod_slice hu h with⟨rfl,rfl⟩|⟨a,len,cap,elems,rest,n',rfl,rfl,rfl,_,hc,hm,l1,m1,m2,_⟩
   ·refine⟨_,⟨[],rfl,by simp,by simp,by simp⟩,rfl,fun j y v hy hv=>by
     cases j with
     |zero=>simp at hy hv;subst hy hv;exact .slnil
     |succ j=>simp at hy⟩
   ·simp only[DataW.weights,hu,a6r,a2k,a0w,a0e,decide_eq_true_eq]at hw
    obtain⟨l2,m2⟩:=m2 rfl
    obtain⟨rows,r1,r2,r3⟩:=A7b (g:=fun t cs=>DataW.trod enc P w 0 (fun _=>true) held n' t cs) (J1 m n') ho.2 (a0c ho.1) hc l1 m1 l2 m2 hw.2.1
    have hle:len*P.bytesOf e<=(elems.length+rest.length)*P.bytesOf e:=a3k _ (by omega)
    refine⟨_,⟨rows,rfl,by omega,by rw[r1];exact a2d hle hw.1,r2⟩,rfl,fun j y v hy hv=>by
     cases j with
     |zero=>simp at hy hv;subst hy hv;exact r3
     |succ j=>simp at hy⟩
  ·rename_i fs hu
   simp only[a0w]at ho
   obtain⟨xs,n',rfl,rfl,hl,hxl,hat⟩:=DataW.trod_struct hu h
   simp only[DataW.weights,hu]at hw
   obtain⟨row,r1,r2,r3⟩:=Tc (g:=fun t cs=>DataW.trod enc P w 0 (fun _=>true) held n' t cs) (J1 m n') hl fs.toList 0 xs ho.1 ho.2 (by simpa using hxl) (fun i f hf=>hat i f (by simpa using hf)) hw
   exact⟨row,r1,by omega,r3⟩
  ·rename_i k e hu
   simp only[a0w]at ho
   obtain⟨xs,n',rfl,rfl,hl,hxl,hat⟩:=DataW.trod_array hu h
   simp only[DataW.weights,hu]at hw
   have hmul:=a2b ho.1
   obtain⟨row,r1,r2,r3⟩:=Ve (g:=fun t cs=>DataW.trod enc P w 0 (fun _=>true) held n' t cs) (J1 m n') ho.2 (n:=k) (cs:=cs) (by omega) k 0 xs (by omega) hxl (fun i hi=>by simpa using hat i hi) hw
   exact⟨row,r1,by omega,by simpa using r3⟩
  ·cases ho
end
section
variable {P:Program}{N:Nat}{ops:Array Oper}{m:Option Nat}{K:Tm->AH->Prop}{tm tm':Tm}{H:AH}{rest:List Oper}{ty:TypeId}{pos:String}{af:Array Edge}{d:Nat}{t u e:TypeId}{x y z:Operand}
end
section
variable {P:Program}{N:Nat}{ops:Array Oper}{m:Option Nat}{K:Tm->AH->Prop}{tm tm':Tm}{H:AH}{rest:List Oper}{ty:TypeId}{pos:String}{af:Array Edge}{d:Nat}{t e:TypeId}{x y z:Operand}
end
section
variable {P:Program}{N:Nat}{ops:Array Oper}{K:Tm->AH->Prop}{tm:Tm}{H:AH}{rest:List Oper}{ty:TypeId}{pos:String}{af:Array Edge}{d:Nat}{x:Operand}
end
section
variable {P:Program}{N:Nat}{ops:Array Oper}{m:Option Nat}{K:Tm->AH->Prop}{tm:Tm}{H:AH}{rest:List Oper}{ty:TypeId}{pos:String}{af:Array Edge}{d:Nat}{t u:TypeId}{x y:Operand}
theorem p5o{a b:Int}(hx:evT tm x=some (.val (.int .i64 a)))(hy:evT tm y=some (.val (.int .i64 b)))(hN:LN d N)(h0:0<b)(h:Reg m P N ops rest ((d,.val (.int .i64 (a.tmod b)))::tm) H K):Reg m P N ops (⟨some d,.binOp .rem t x y u,ty,pos,af,none⟩::rest) tm H K:=
 S.val (OpV.mk fun L w ρ η hη _=>by
  have h1:=(hη x (by simp[Op.operands]) _ hx).val_eq
  have h2:=(hη y (by simp[Op.operands]) _ hy).val_eq
  have hb:b≠0:=by omega
  exact⟨_,by simp[execOp,h1,h2,eqGuard,binOp,Op.intDiv,hb],Ab _⟩) hN h
theorem p3w{a b:Int}(hx:evT tm x=some (.val (.int .i64 a)))(hy:evT tm y=some (.val (.int .i64 b)))(hN:LN d N)(h0:0<b)(hw:IntKind.i64.wrap (a.tdiv b)=a.tdiv b)(h:Reg m P N ops rest ((d,.val (.int .i64 (a.tdiv b)))::tm) H K):Reg m P N ops (⟨some d,.binOp .quo t x y u,ty,pos,af,none⟩::rest) tm H K:=
 S.val (OpV.mk fun L w ρ η hη _=>by
  have h1:=(hη x (by simp[Op.operands]) _ hx).val_eq
  have h2:=(hη y (by simp[Op.operands]) _ hy).val_eq
  have hb:b≠0:=by omega
  exact⟨_,by simp[execOp,h1,h2,eqGuard,binOp,Op.intDiv,hb,hw],Ab _⟩) hN h
end
theorem Dv(n:Nat){G R:Prop}(r:R)(h:∀m,m=n->Rest R->G:=by intro m e r;apply p5x m A8;(subst e;decide+kernel);subst e;simp only[td];exact r.out):G:=h n rfl ⟨r⟩
theorem Zbt{G R:Prop}(r:R)(h:Rest R→G:=by intro r;apply p0x;(iterate 6 exact rfl);exact r.out):G:=h ⟨r⟩
theorem Zd7{A0:Prop}(a0:A0){A1:Prop}(a1:A1){G R:Prop}(r:R)(h:A0→A1→Rest R→G:=by intro a0 a1 r;apply p0h;(iterate 9 exact rfl);exact a0;exact a1;exact rfl;omega;omega;exact r.out):G:=h a0 a1 ⟨r⟩
theorem Zd9{G R:Prop}(r:R)(h:Rest R→G:=by intro r;apply p3k;(iterate 3 exact rfl);exact r.out):G:=h ⟨r⟩
end Go.Proofs.YtcaicpnepfjcmaaGreat
