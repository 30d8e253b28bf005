/- Lemmas of the proof. -/
import Derived.Test.YtcaicpnepfjcmaaGreatNe
set_option linter.all false
namespace Go.Proofs.YtcaicpnepfjcmaaGreat
open Go Go.RowKit
def a3e:= @Nat.eq_zero_or_pos
def a4j:= @Int.natCast_nonneg
theorem RelSt.turn{E:Env}{tm:Tm}{H:AH}{a:Act}{w w':World}{ρ:Pl}(h:RelSt E ⟨tm,H⟩ a w ρ){b k o:Nat}{cells cells':List AV}{c':Array Value}{el:TypeId}{lo hi:Nat}(hb:H.at b=.live cells)(q1:ρ b=some (some (k,o)))(hF:Fr (fun j=>j=k) w w')(hw:w'.heap[k]?=some (.cells c' el (lo,hi)))(hlo:hi<=lo)(hsz:o+cells'.length<=c'.size)
  (hc:Later E.L w ρ w' ρ->∀(j:Nat)(x:AV),cells'[j]?=some x->∃v,c'[o+j]?=some v/\RelV w' E.L ρ x v):RelSt E ⟨tm,H.put b (.live cells')⟩ a w' ρ:=by
 have q2:¬E.L k:=by
  obtain⟨k0,o0,c0,e0,lo0,hi0,i1,i2,i3,i4,i5,i6⟩:=h.H.live b cells hb
  rw[q1]at i1
  simp only[a0h,a1p]at i1
  exact i1.1▸i5
 have hkF:Fb E.L ρ k:=.inr ⟨b,o,q1⟩
 have hla:Later E.L w ρ w' ρ:=⟨fun _ _=>.inl rfl,fun j o' u h1 h2=>⟨by
  rw[a3d (w:=w) (hF.block j (Ef h2) fun e=>h1 (e▸hkF))];exact h2,h1⟩,hF.shape⟩
 have hother:∀{b' j o':Nat},b'≠b->ρ b'=some (some (j,o'))->w'.heap[j]?=w.heap[j]?:=fun {b' j o'} hne hj=>
  hF.block j (h.H.lt hj) fun e=>hne (h.H.dist _ _ j _ o hj (e▸q1))
 refine h.move hla ⟨fun b' hb'=>?_,fun b' hb'=>?_,fun b' cs1 hb'=>?_,fun b' es hb'=>?_,h.H.dist,h.H.ext.put hla.cell (by rw[hb];rfl) rfl (fun _ _=>rfl) hF.size (fun _ _ _ _ _ _ _ _ h=>h.later hla) (fun b' j o' hne hj=>hother hne hj)⟩ (hF.mono fun j hj e=>by subst e;exact h.mineO q1) fun b' j o' hj=>h.minePut b rfl hj
 ·rw[p0e]at hb'
  split at hb'
  ·cases hb'
  ·exact h.H.free b' hb'
 ·rw[p0e]at hb'
  split at hb'
  ·cases hb'
  ·exact h.H.dead b' hb'
 ·rw[p0e]at hb'
  split at hb'
  ·rename_i e
   injection hb' with hb'
   subst hb' e
   exact⟨k,o,c',el,lo,hi,q1,hw,hlo,hsz,q2,hc hla⟩
  ·rename_i hne
   obtain⟨k0,o0,c,el,lo,hi,g1,g2,g3,g4,g5,g6⟩:=h.H.live b' cs1 hb'
   refine⟨k0,o0,c,el,lo,hi,g1,by rw[hother hne g1];exact g2,g3,g4,g5,fun j x hj=>?_⟩
   obtain⟨v,f1,f2⟩:=g6 j x hj
   exact⟨v,f1,f2.later hla⟩
 ·rw[p0e]at hb'
  split at hb'
  ·cases hb'
  ·rename_i hne
   obtain⟨k0,entries,clock,g1,g2,g3,g4⟩:=h.H.map b' es hb'
   exact⟨k0,entries,clock,g1,by rw[hother hne g1];exact g2,g3,g4⟩
theorem RelSt.regrow2{E:Env}{tm tm':Tm}{H:AH}{a:Act}{w:World}{ρ:Pl}(h:RelSt E ⟨tm,H⟩ a w ρ){b k o:Nat}{w':World}{k' o':Nat}{c':Array Value}{e':TypeId}{lo hi:Nat}{cells cells':List AV}
  (htm:tm.clearO b=some tm') (hH:H.clear b 0=true) (hlive:H.at b=.live cells) (q1:ρ b=some (some (k,o)))
  (hw:w'.heap[k']?=some (.cells c' e' (lo,hi))) (hlo:hi<=lo) (hsz:o'+cells'.length<=c'.size)
  (hk:k'=k\/w.heap.size<=k') (hF:Fr (fun j=>j=k) w w')
  (hc:LaterX b E.L w ρ w' (ρ.upd b (some (k',o')))->∀(j:Nat)(x:AV),cells'[j]?=some x->∃v,c'[o'+j]?=some v/\RelV w' E.L (ρ.upd b (some (k',o'))) x v):
  RelSt E ⟨tm',H.put b (.live cells')⟩ a w' (ρ.upd b (some (k',o'))):=by
 have hmap:(H.at b).ord=true:=by rw[hlive];rfl
 have hLk:¬E.L k:=by
  obtain⟨k0,o0,c,el,lo,hi,h1,h2,h3,h4,h5,h6⟩:=h.H.live b cells hlive
  rw[q1]at h1
  simp only[a0h,a1p]at h1
  exact h1.1▸h5
 have hL:¬E.L k':=by
  rcases hk with rfl|hk
  ·exact hLk
  ·intro hL
   have:=h.lim _ hL
   have:=h.fr.size
   omega
 have hmine:E.O k'\/E.w0.heap.size<=k':=by
  rcases hk with rfl|hk
  ·exact h.mineO q1
  ·have:=h.fr.size
   exact .inr (by omega)
 have hne:∀{b' j o:Nat},b'≠b->ρ b'=some (some (j,o))->j≠k'/\j≠k:=fun {b' j o2} hbb h1=>by
  have hjk:j≠k:=fun e=>by
   subst e
   exact hbb (h.H.dist _ _ _ _ _ h1 q1)
  refine⟨fun e=>?_,hjk⟩
  subst e
  rcases hk with rfl|hk
  ·exact hjk rfl
  ·have:=h.H.lt h1
   omega
 have hb:∀j,j<w.heap.size->j≠k->w'.heap[j]?=w.heap[j]?:=fun j hj hn=>hF.block j hj hn
 have hu:∀{b' k o:Nat},(ρ.upd b (some (k',o'))) b'=some (some (k,o))->(b'=b/\k=k'/\o=o')\/(b'≠b/\ρ b'=some (some (k,o))):=fun {b' k o} h1=>by
  unfold Pl.upd at h1
  by_cases e:b'=b
  ·rw[if_pos e]at h1
   simp only[a0h,a1p]at h1
   exact .inl ⟨e,h1.1.symm,h1.2.symm⟩
  ·rw[if_neg e]at h1
   exact .inr ⟨e,h1⟩
 have hla:LaterX b E.L w ρ w' (ρ.upd b (some (k',o'))):=by
  refine⟨fun b' hb'=>by unfold Pl.upd;rw[if_neg hb'],fun j o2 u h1 h2=>?_,hF.shape⟩
  have hjk:j≠k:=by
   rintro rfl
   exact h1 (.inr ⟨b,o,q1⟩)
  have hkk:j≠k':=by
   rintro rfl
   rcases hk with rfl|hk
   ·exact hjk rfl
   ·have:=Ef h2
    omega
  refine⟨by rw[a3d (w:=w) (hb j (Ef h2) hjk)];exact h2,?_⟩
  rintro(hf|⟨b',o2,hf⟩)
  ·exact h1 (.inl hf)
  ·rcases hu hf with⟨_,e,_⟩|⟨_,h3⟩
   ·exact hkk e
   ·exact h1 (.inr ⟨b',o2,h3⟩)
 have hput:∀b',b'≠b->(H.put b (.live cells')).at b'=H.at b':=fun b' hb'=>by rw[p0e,if_neg hb']
 have hupd:∀b',b'≠b->(ρ.upd b (some (k',o'))) b'=ρ b':=fun b' hb'=>by unfold Pl.upd;rw[if_neg hb']
 refine⟨h.size,h.defers,fun t x hx=>?_,⟨fun b' hb'=>?_,fun b' hb'=>?_,fun b' cs hb'=>?_,fun b' es hb'=>?_,fun b1 b2 k o1 o2 h1 h2=>?_,h.H.ext.put hla.cell (p3m hmap) rfl hupd hF.size (fun b' cs vs hne hg y hy v hv=>hv.laterX hla (a0l.1 (p2g H 0 b' cs vs hH hg (by omega)) y hy)) fun b' k o hne' hk'=>hb k (h.H.lt hk') (hne hne' hk').2⟩,?_,fun b' k o h1=>?_,h.lim⟩
 ·obtain⟨h1,h2⟩:=p2e _ _ _ htm t x hx
  obtain⟨h3,h4⟩:=h.tm t x h1
  exact⟨h3,h4.laterX hla h2⟩
 ·by_cases e:b'=b
  ·subst e;rw[p0e,if_pos rfl]at hb';cases hb'
  ·rw[hput b' e]at hb';rw[hupd b' e];exact h.H.free b' hb'
 ·by_cases e:b'=b
  ·subst e;rw[p0e,if_pos rfl]at hb';cases hb'
  ·rw[hput b' e]at hb';rw[hupd b' e];exact h.H.dead b' hb'
 ·by_cases e:b'=b
  ·subst e
   rw[p0e,if_pos rfl]at hb'
   injection hb' with hb'
   subst hb'
   refine⟨k',o',c',e',lo,hi,by unfold Pl.upd;rw[if_pos rfl],hw,hlo,hsz,hL,fun j x hj=>?_⟩
   exact hc hla j x hj
  ·rw[hput b' e]at hb'
   obtain⟨k0,o0,c,el,lo0,hi0,h1,h2,h3,h4,h5,h6⟩:=h.H.live b' cs hb'
   refine⟨k0,o0,c,el,lo0,hi0,by rw[hupd b' e];exact h1,by rw[hb k0 (Cl h2) (hne e h1).2];exact h2,h3,h4,h5,fun j x hj=>?_⟩
   obtain⟨v,g1,g2⟩:=h6 j x hj
   have hcl:=p2l H 0 b' cs hH hb' (by omega)
   exact⟨v,g1,g2.laterX hla (a0l.1 hcl x (a0a hj))⟩
 ·by_cases e:b'=b
  ·subst e;rw[p0e,if_pos rfl]at hb';cases hb'
  ·rw[hput b' e]at hb'
   obtain⟨k0,entries,clock,h1,h2,h3,h4⟩:=h.H.map b' es hb'
   exact⟨k0,entries,clock,by rw[hupd b' e];exact h1,by rw[hb k0 (Cl h2) (hne e h1).2];exact h2,h3,h4⟩
 ·rcases hu h1 with⟨e1,f1,_⟩|⟨e1,f1⟩<;>rcases hu h2 with⟨e2,f2,_⟩|⟨e2,f2⟩
  ·rw[e1,e2]
  ·exact absurd f1 (hne e2 f2).1
  ·exact absurd f2 (hne e1 f1).1
  ·exact h.H.dist _ _ _ _ _ f1 f2
 ·refine h.fr.trans ⟨hF.os,hF.tape,hF.output,hF.size,fun j hj1 hj2=>hb j hj1 fun e=>hj2 ?_,hF.shape⟩
  subst e
  exact h.mineO q1
 ·rcases hu h1 with⟨e1,rfl,_⟩|⟨_,f1⟩
  ·exact hmine.imp_left fun h1=>⟨h1,by show((H.put b (.live cells')).at b').isExt=false;rw[p0e,if_pos e1];rfl⟩
  ·exact h.minePut b rfl f1
structure FnSort(P:Program)(f g:FuncId)(n len:Nat)(xs:List Lf)(R:List Lf->Prop):Prop where
 ent:Enters P f
 run:∀(L:Nat->Prop)(w:World)(k o cap:Nat)(c:Array Value)(el:TypeId)(lo hi:Nat),(∀w',Fr (fun j=>j=k) w w'->Glob w')->(∀j,L j->j<w.heap.size)->¬L k->w.heap[k]?=some (.cells c el (lo,hi))->hi<=lo->len<=cap->o+cap*n<=c.size->
  (∀(j:Nat)(x:Lf),xs[j]?=some x->∃u,c[o+j]?=some u/\RelL w (fun j=>L j\/j=k) x u)->
  Calls P f #[.slice (some ⟨k,o,none⟩) len cap,.func (.func g) #[] #[]] w fun e w'=>e=.returned (.tuple #[])/\Fr (fun j=>j=k) w w'/\∃xs' c',R xs'/\w'.heap[k]?=some (.cells c' el (lo,hi))/\c'.size=c.size/\xs'.length=xs.length/\
   ∀(j:Nat)(x:Lf),xs'[j]?=some x->∃u,c'[o+j]?=some u/\RelL w' (fun j=>L j\/j=k) x u
structure FnMut(P:Program)(f:FuncId)(n len:Nat)(xs:List Lf)(len':Nat)(xs':List Lf):Prop where
 ent:Enters P f
 run:∀(L:Nat->Prop)(w:World)(k o cap:Nat)(c:Array Value)(el:TypeId)(lo hi:Nat),(∀w',Fr (fun j=>j=k) w w'->Glob w')->(∀j,L j->j<w.heap.size)->¬L k->w.heap[k]?=some (.cells c el (lo,hi))->hi<=lo->len<=cap->o+cap*n<=c.size->o+xs.length<=c.size->
  (∀(j:Nat)(x:Lf),xs[j]?=some x->∃u,c[o+j]?=some u/\RelL w (fun j=>L j\/j=k) x u)->
  Calls P f #[.slice (some ⟨k,o,none⟩) len cap] w fun e w'=>Fr (fun j=>j=k) w w'/\∃k' o' cap' c' el' lo' hi',e=.returned (.slice (some ⟨k',o',none⟩) len' cap')/\(k'=k\/w.heap.size<=k')/\w'.heap[k']?=some (.cells c' el' (lo',hi'))/\hi'<=lo'/\len'<=cap'/\o'+cap'*n<=c'.size/\o'+xs'.length<=c'.size/\
   ∀(j:Nat)(x:Lf),xs'[j]?=some x->∃u,c'[o'+j]?=some u/\RelL w' (fun j=>L j\/j=k') x u
structure FnGrow(P:Program)(f:FuncId)(n most:Nat):Prop where
 ent:Enters P f
 run:∀(m:Nat)(w:World),0<m->m<=most->Calls P f #[.slice none 0 0,.int .i64 m] w fun e w'=>∃k o cap c el lo hi,e=.returned (.slice (some ⟨k,o,none⟩) 0 cap)/\Below w.heap.size w w'/\w.heap.size<=k/\w'.heap[k]?=some (.cells c el (lo,hi))/\hi<=lo/\o+cap*n<=c.size
def A0g(P:Program)(fn:Func)(n len':Nat)(xs':List Lf)(e:Exit)(st:St):Prop:=(e=.normal\/e=.ret)/\∃b,ResL P st fn.results.toList [.own b 0 len' n]/\st.H.at b=.live (xs'.map .lf)
theorem FnMut.of{P:Program}{f:FuncId}{fn:Func}{c:Code}{n len len':Nat}{xs xs':List Lf}{N:Nat}(hf:P.funcs[f]?=some fn)(hnt:fn.ntmps=N)(hb:fn.body=some c)(hn:(fn.name== "runtime.NumGoroutine")=false)(hN:Nat.ble 1 N=true)
  (h:T P N c ⟨[(0,.own 0 0 len n)],[.live (xs.map .lf)]⟩ (A0g P fn n len' xs')):FnMut P f n len xs len' xs':=by
 subst hnt
 refine⟨⟨fn,hf,hn,by rw[hb];rfl⟩,fun L w k o cap arr el lo hi hG hL hLk hw hlo hcap hfit hxl hc=>?_⟩
 have hN':=a0c hN
 refine calls_of_wp hf hb ?_
 let E:Env:={N:=fn.ntmps,L:=L,O:=fun j=>j=k,w0:=w,good:=hG}
 let ρ:Pl:=fun b=>match b with|0=>some (some (k,o))|_+1=>none
 have hFb:∀j,(L j\/j=k)↔Fb L ρ j:=fun j=>by
  constructor
  ·rintro(h|rfl)
   ·exact .inl h
   ·exact .inr ⟨0,o,rfl⟩
  ·rintro(h|⟨b,o',h⟩)
   ·exact .inl h
   ·cases b with
    |zero=>injection h with h;injection h with h;injection h with h _;exact .inr h.symm
    |succ b=>cases h
 have hkw:k<w.heap.size:=Cl hw
 have hsz:(#[Value.slice (some ⟨k,o,none⟩) len cap]++Array.replicate (fn.ntmps-1) undef).size=fn.ntmps:=by simp;omega
 have hst:RelSt E ⟨[(0,.own 0 0 len n)],[.live (xs.map .lf)]⟩ {tmps:= #[Value.slice (some ⟨k,o,none⟩) len cap]++Array.replicate (fn.ntmps-1) undef,defers:=[]} w ρ:=by
  have hone:∀(b:Nat)(x:HB),AH.at [HB.live (xs.map .lf)] b=x->x≠.free->b=0/\x=.live (xs.map .lf):=fun b x hx hne=>by
   cases b with
   |zero=>exact⟨rfl,hx.symm⟩
   |succ b=>simp[AH.at]at hx;exact absurd hx.symm hne
  refine⟨hsz,rfl,fun t x hx=>?_,⟨fun b hb=>?_,fun b hb=>?_,fun b cs hb=>?_,fun b cs hb=>?_,fun b b' j o1 o2 h1 h2=>?_,⟨fun b T e b2 s hb=>?_,fun b hb=>?_,fun b b' T e T' e' b2 s s' h1 h2=>?_,fun b k1 o1 cs1 hb=>?_,fun b cs1 vs1 hb=>absurd (hone b _ hb (by simp)).2 (by simp)⟩⟩,Fr.refl _ _,fun b j o1 h1=>?_,hL⟩
  ·rw[p0w]at hx
   by_cases e0:0=t
   ·subst e0
    rw[if_pos rfl]at hx
    injection hx with hx
    subst hx
    refine⟨by show 0<fn.ntmps;omega,?_⟩
    have h0:(#[Value.slice (some ⟨k,o,none⟩) len cap]++Array.replicate (fn.ntmps-1) undef).getD 0 undef=Value.slice (some ⟨k,o,none⟩) len cap:=by
     rw[a0r,a1r (by simp)]
     simp
    show RelV w L ρ (.own 0 0 len n) ((#[Value.slice (some ⟨k,o,none⟩) len cap]++Array.replicate (fn.ntmps-1) undef).getD 0 undef)
    rw[h0]
    refine .own 0 0 len n _ (by simp[ρ]) rfl fun k1 o1 hk1=>?_
    injection hk1 with hk1
    injection hk1 with hk1
    injection hk1 with hk1 hk2
    subst hk1 hk2
    exact⟨cap,el,arr.size,rfl,hcap,Dh hw,hfit⟩
   ·rw[if_neg e0]at hx
    cases hx
  ·cases b with
   |zero=>cases hb
   |succ b=>rfl
  ·exact absurd (hone _ _ hb (by simp)).2 (by simp)
  ·obtain⟨rfl,he⟩:=hone _ _ hb (by simp)
   injection he with he
   subst he
   refine⟨k,o,arr,el,lo,hi,rfl,hw,hlo,by simpa using hxl,hLk,fun j x hj=>?_⟩
   rw[a0d]at hj
   cases hx:xs[j]? with
   |none=>rw[hx]at hj;cases hj
   |some y=>
    rw[hx]at hj
    simp only[a1g,a0h]at hj
    subst hj
    obtain⟨u,h1,h2⟩:=hc j y hx
    exact⟨u,h1,.lf _ _ (h2.iff hFb)⟩
  ·exact absurd (hone _ _ hb (by simp)).2 (by simp)
  ·cases b with
   |zero=>cases b' with
    |zero=>rfl
    |succ b'=>cases h2
   |succ b=>cases h1
  ·exact absurd (hone _ _ hb (by simp)).2 (by simp)
  ·exact absurd (hone _ _ hb (by simp)).2 (by simp)
  ·exact absurd (hone _ _ h1 (by simp)).2 (by simp)
  ·exact absurd (hone _ _ hb (by simp)).2 (by simp)
  ·cases b with
   |zero=>injection h1 with h1;injection h1 with h1;injection h1 with h1 _;exact .inl ⟨h1.symm,rfl⟩
   |succ b=>cases h1
 refine wp_mono (h.out E _ w ρ rfl hst) ?_
 rintro e a' w' ⟨st',ρ',⟨he,b,hxs,hlive⟩,hr'⟩
 obtain⟨us',h1,h2,h3⟩:=hxs.run hr'
 have hres:=Ht (fn:=fn) h1
 match us',h2,h3,hres with
 |[u],_,h3,hres=>
  have hown:RelV w' L ρ' (.own b 0 len' n) u:=h3 0 _ u rfl rfl
  obtain⟨k',o',c',el',lo',hi',g1,g2,g3,g4,g5,g6⟩:=hr'.H.live b _ hlive
  obtain⟨cap',e2,n2,hveq,hcap',hsh,hfit'⟩:=hown.own_out k' o' g1
  have hn2:n2=c'.size:=by
   rw[Dh g2]at hsh
   simp only[a0h,a1p]at hsh
   exact hsh.2.symm
  rw[a3b]at hveq hfit'
  have fin:Fr (fun j=>j=k) w w'/\∃k' o' cap' c' el' lo' hi',Ending.returned u=.returned (.slice (some ⟨k',o',none⟩) len' cap')/\(k'=k\/w.heap.size<=k')/\w'.heap[k']?=some (.cells c' el' (lo',hi'))/\hi'<=lo'/\len'<=cap'/\o'+cap'*n<=c'.size/\o'+xs'.length<=c'.size/\
    ∀(j:Nat)(x:Lf),xs'[j]?=some x->∃u,c'[o'+j]?=some u/\RelL w' (fun j=>L j\/j=k') x u:=by
   refine⟨hr'.fr,k',o',cap',c',el',lo',hi',by rw[hveq],hr'.mineO g1,g2,g3,hcap',by rw[<-hn2];exact hfit',by simpa using g4,fun j x hj=>?_⟩
   obtain⟨v,q1,q2⟩:=g6 j (.lf x) (by rw[a0d,hj];rfl)
   refine⟨v,q1,q2.lf_out.less fun i hi=>?_⟩
   rcases hi with hi|rfl
   ·exact .inl hi
   ·exact .inr ⟨b,o',g1⟩
  rcases he with rfl|rfl
  ·exact⟨hr'.defers,_,hres,fin⟩
  ·exact⟨hr'.defers,_,hres,fin⟩
section
variable {P:Program}{N:Nat}{ops:Array Oper}{m:Option Nat}{K:Tm->AH->Prop}{tm tm':Tm}{H:AH}{rest:List Oper}{ty:TypeId}{pos:String}{af:Array Edge}{d:Nat}{t e u:TypeId}{x y z:Operand}
theorem p2q{b n len:Nat}{f g:FuncId}{ts:Array TypeId}{xs:List Lf}{R:List Lf->Prop}(hx:evT tm x=some (.own b 0 len n))(hb:H.at b=.live (xs.map .lf))(hp:FnSort P f g n len xs R)(hN:LN d N)
  (h:∀xs',R xs'->Reg none P N ops rest ((d,.tup [])::tm) (H.put b (.live (xs'.map .lf))) K):
  Reg none P N ops (⟨some d,.call ⟨.value (.func f), #[x,.func g],ts⟩,ty,pos,af,none⟩::rest) tm H K:=by
 refine⟨fun E a w ρ hE hR=>?_⟩
 refine wpList_plain rfl fun K' hK=>?_
 have hN':=a0c hN
 have hxv:RelV w E.L ρ (.own b 0 len n) (a.eval x):=hR.ev (by rw[Am];exact hx)
 obtain⟨k,o,c,el,lo,hi,g1,g2,g3,g4,g5,g6⟩:=hR.H.live b _ hb
 obtain⟨cap,e2,n2,hxe,hcap,hsh,hfitc⟩:=hxv.own_out k o g1
 rw[a3b]at hxe hfitc
 have hcs:n2=c.size:=by
  rw[Dh g2]at hsh
  simp only[a0h,a1p]at hsh
  exact hsh.2.symm
 have hrun:(execOp a.eval ⟨some d,.call ⟨.value (.func f), #[x,.func g],ts⟩,ty,pos,af,none⟩).run P w=.ok (.enter f #[a.eval x,.func (.func g) #[] #[]]) w:=by
  have:(execOp a.eval ⟨some d,.call ⟨.value (.func f), #[x,.func g],ts⟩,ty,pos,af,none⟩).run P w=(callFunc f (#[]++ #[x,.func g].map a.eval++ #[])).run P w:=by simp[execOp,resolve,Act.eval,Deferred.ofValue,invoke]
  rw[this,hp.ent.run]
  simp[Act.eval,Deferred.ofValue]
 have hkF:Fb E.L ρ k:=.inr ⟨b,o,g1⟩
 have hFb':∀j,Fb E.L ρ j↔((Fb E.L ρ j/\j≠k)\/j=k):=fun j=>by
  constructor
  ·intro h
   by_cases e:j=k
   ·exact .inr e
   ·exact .inl ⟨h,e⟩
  ·rintro(h|rfl)
   ·exact h.1
   ·exact hkF
 unfold Oper.wp
 rw[hrun,hxe]
 refine(hp.run (fun j=>Fb E.L ρ j/\j≠k) w k o cap c el lo hi (fun w' hF=>E.good w' (hR.fr.trans (hF.mono fun j _ e=>by subst e;exact hR.mineO g1))) (fun j hj=>hR.fb_lt j hj.1) (fun h=>h.2 rfl) g2 g3 hcap (by rw[<-hcs];exact hfitc) fun j x hj=>?_).mono ?_
 ·obtain⟨v,q1,q2⟩:=g6 j (.lf x) (by rw[a0d,hj];rfl)
  exact⟨v,q1,q2.lf_out.iff hFb'⟩
 ·rintro e w' ⟨rfl,hF,xs',c',hRx,p1,p2,p3,p4⟩
  have s2:=hR.turn (cells':=xs'.map .lf) hb g1 hF p1 g3 (by rw[a0e,p3,p2];simpa using g4) fun hla j z hj=>by
   rw[a0d]at hj
   cases hf:xs'[j]? with
   |none=>rw[hf]at hj;cases hj
   |some x=>
    rw[hf]at hj
    simp only[a1g,a0h]at hj
    subst hj
    obtain⟨u,r1,r2⟩:=p4 j x hf
    exact⟨u,r1,.lf _ _ (r2.iff fun j=>(hFb' j).symm)⟩
  exact hK _ _ ((h xs' hRx).out E _ w' ρ hE (s2.put (by rw[hE];exact hN') (.tup [] [] rfl fun i x v h=>by simp at h)))
theorem p3a{b n len len':Nat}{f:FuncId}{ts:Array TypeId}{xs xs':List Lf}(hp:FnMut P f n len xs len' xs')(hx:evT tm x=some (.own b 0 len n))(hb:H.at b=.live (xs.map .lf))(htm:tm.clearO b=some tm')(hH:AH.clear b 0 H=true)(hN:LN d N)
  (h:Reg none P N ops rest ((d,.own b 0 len' n)::tm') (H.put b (.live (xs'.map .lf))) K):
  Reg none P N ops (⟨some d,.call ⟨.value (.func f), #[x],ts⟩,ty,pos,af,none⟩::rest) tm H K:=by
 refine⟨fun E a w ρ hE hR=>?_⟩
 replace h:=h.out
 refine wpList_plain rfl fun K' hK=>?_
 have hN':=a0c hN
 have hxv:RelV w E.L ρ (.own b 0 len n) (a.eval x):=hR.ev (by rw[Am];exact hx)
 obtain⟨k,o,c,el,lo,hi,g1,g2,g3,g4,g5,g6⟩:=hR.H.live b _ hb
 obtain⟨cap,e2,n2,hxe,hcap,hsh,hfitc⟩:=hxv.own_out k o g1
 rw[a3b]at hxe hfitc
 have hcs:n2=c.size:=by
  rw[Dh g2]at hsh
  simp only[a0h,a1p]at hsh
  exact hsh.2.symm
 have hrun:(execOp a.eval ⟨some d,.call ⟨.value (.func f), #[x],ts⟩,ty,pos,af,none⟩).run P w=.ok (.enter f #[a.eval x]) w:=by
  have:(execOp a.eval ⟨some d,.call ⟨.value (.func f), #[x],ts⟩,ty,pos,af,none⟩).run P w=(callFunc f (#[]++ #[x].map a.eval++ #[])).run P w:=by simp[execOp,resolve,Act.eval,Deferred.ofValue,invoke]
  rw[this,hp.ent.run]
  simp
 have hkF:Fb E.L ρ k:=.inr ⟨b,o,g1⟩
 have hFb':∀j,Fb E.L ρ j↔((Fb E.L ρ j/\j≠k)\/j=k):=fun j=>by
  constructor
  ·intro h
   by_cases e:j=k
   ·exact .inr e
   ·exact .inl ⟨h,e⟩
  ·rintro(h|rfl)
   ·exact h.1
   ·exact hkF
 unfold Oper.wp
 rw[hrun,hxe]
 refine(hp.run (fun j=>Fb E.L ρ j/\j≠k) w k o cap c el lo hi (fun w' hF=>E.good w' (hR.fr.trans (hF.mono fun j _ e=>by subst e;exact hR.mineO g1))) (fun j hj=>hR.fb_lt j hj.1) (fun h=>h.2 rfl) g2 g3 hcap (by rw[<-hcs];exact hfitc) (by simpa using g4) fun j x hj=>?_).mono ?_
 ·obtain⟨v,q1,q2⟩:=g6 j (.lf x) (by rw[a0d,hj];rfl)
  exact⟨v,q1,q2.lf_out.iff hFb'⟩
 ·rintro e w' ⟨hF,k',o',cap',c',el',lo',hi',rfl,hk',p1,p2,p3,p4,p5,p6⟩
  have s2:=hR.regrow2 (tm':=tm') (cells':=xs'.map .lf) htm hH hb g1 p1 p2 (by rw[a0e];exact p5) hk' hF fun hla j z hj=>by
   rw[a0d]at hj
   cases hf:xs'[j]? with
   |none=>rw[hf]at hj;cases hj
   |some x=>
    rw[hf]at hj
    simp only[a1g,a0h]at hj
    subst hj
    obtain⟨u,r1,r2⟩:=p6 j x hf
    refine⟨u,r1,.lf _ _ (r2.less fun i hi=>?_)⟩
    rcases hi with hi|⟨b',o2,hi⟩
    ·exact .inl ⟨.inl hi,fun e=>g5 (e▸hi)⟩
    ·unfold Pl.upd at hi
     by_cases e':b'=b
     ·rw[if_pos e']at hi
      simp only[a0h,a1p]at hi
      exact .inr hi.1.symm
     ·rw[if_neg e']at hi
      exact .inl ⟨.inr ⟨b',o2,hi⟩,fun e=>by subst e;exact e' (hR.H.dist _ _ _ _ _ hi g1)⟩
  exact hK _ _ (h E _ w' _ hE (s2.put (by rw[hE];exact hN') (K1 p3 (Dh p1) p4)))
theorem p4l(b:Nat){n most mm:Nat}{mz:Int}{f:FuncId}{ts:Array TypeId}(hp:FnGrow P f n most)(hx:evT tm x=some (.val (.slice none 0 0)))(hy:evT tm y=some (.val (.int .i64 mz)))(hb:(H.at b).idle=true)(htm:tm.clearO b=some tm')(hH:AH.clear b 0 H=true)(hN:LN d N)(hm:mz=(mm:Int))(h0:0<mm/\mm<=most)
  (h:Reg none P N ops rest ((d,.own b 0 0 n)::tm') (H.put b (.live [])) K):
  Reg none P N ops (⟨some d,.call ⟨.value (.func f), #[x,y],ts⟩,ty,pos,af,none⟩::rest) tm H K:=by
 subst hm
 refine⟨fun E a w ρ hE hR=>?_⟩
 replace h:=h.out
 refine wpList_plain rfl fun K' hK=>?_
 have hN':=a0c hN
 have hxv:=(hR.ev (x:=x) (by rw[Am];exact hx)).val_eq
 have hyv:=(hR.ev (x:=y) (by rw[Am];exact hy)).val_eq
 have hrun:(execOp a.eval ⟨some d,.call ⟨.value (.func f), #[x,y],ts⟩,ty,pos,af,none⟩).run P w=.ok (.enter f #[a.eval x,a.eval y]) w:=by
  have:(execOp a.eval ⟨some d,.call ⟨.value (.func f), #[x,y],ts⟩,ty,pos,af,none⟩).run P w=(callFunc f (#[]++ #[x,y].map a.eval++ #[])).run P w:=by simp[execOp,resolve,Act.eval,Deferred.ofValue,invoke]
  rw[this,hp.ent.run]
  simp
 unfold Oper.wp
 rw[hrun,hxv,hyv]
 refine(hp.run mm w h0.1 h0.2).mono ?_
 rintro e w' ⟨k,o,cap,c,el,lo,hi,rfl,hbel,hk,hw,hlo,hfit⟩
 obtain⟨s1,s2⟩:=hR.regrow (tm':=tm') (cells':=[]) (w':=w') (k':=k) (o':=o) htm hH (p1r hb) hw hlo
  (by simp;omega) (.inr hk) (fun k2 hk2 _=>hbel.block k2 hk2) (fun k2 x hx=>(Gl (L:=E.L) (ρ:=ρ) hbel).shape k2 x hx) hbel.os hbel.tape hbel.output hbel.size fun hla j z hj=>by simp at hj
 exact hK _ _ (h E _ w' _ hE (s2.put (by rw[hE];exact hN') (K1 (a0k _) (Dh hw) hfit)))
theorem p2w{n b off len:Nat}{k:IntKind}{i:Int}{o2 l2:Nat}[hu:HasU P t (.slice e)][hi:HasS P e n](hx:evT tm x=some (.own b off len n))(hy:evT tm y=some (.val (.int k i)))(hb:(C0 m H b).isLive=true)(hN:LN d N)(h0:0<=i/\i<len)(ho:off+i.toNat*n=o2)(hl:len-i.toNat=l2)
  (h:Reg m P N ops rest ((d,.own b o2 l2 n)::tm) H K):Reg m P N ops (⟨some d,.slice t x (some y) none none,ty,pos,af,none⟩::rest) tm H K:=by
 subst ho hl
 obtain⟨cs,hb'⟩:=Eb hb
 refine S.val (OpV.mk fun L w ρ η hη hH=>?_) hN h
 have hv:=(hη y (by simp[Op.operands]) _ hy).val_eq
 obtain⟨k',o',arr,el,lo,hi',g1,g2,g3,g4⟩:=hH b cs hb'
 obtain⟨cap,el2,sz,h1,hc,hsh,hfit⟩:=(hη x (by simp[Op.operands]) _ hx).own_out k' o' g1
 obtain⟨j,rfl⟩:∃j:Nat,i=j:=⟨i.toNat,by omega⟩
 rw[a0q]at*
 have hne:¬cap=j:=by omega
 have hj:((j:Nat):Int)<=(len:Int):=by omega
 refine⟨.slice (some ⟨k',o'+(off+j*n),none⟩) (len-j) (cap-j),?_,.own b _ _ n _ (by rw[g1];simp) rfl fun k2 o2 hk2=>?_⟩
 ·have hj0:(0:Int)<=(j:Nat):=a4j _
  simp only[execOp,h1,hv,Instr.sliceAt,a1g,a6x,a0t,run_underlying hu.out,a0o,Instr.slice,Instr.sliceBounds,Instr.sliceBound,asIntOf,a1m,hj,hj0,and_self,if_true,Ax hi.out,a0q]
  rw[if_neg (by simpa using hne)]
  simp[Bf,a1t]
 ·rw[g1]at hk2
  simp only[a0h,a1p]at hk2
  obtain⟨rfl,rfl⟩:=hk2
  refine⟨cap-j,el2,sz,rfl,by omega,hsh,?_⟩
  have:(cap-j)*n+j*n=cap*n:=by rw[<-a3u,Nat.sub_add_cancel (by omega)]
  omega
theorem p3p{n b off len:Nat}{k:IntKind}{i:Int}{l2:Nat}[hu:HasU P t (.slice e)][hi:HasS P e n](hx:evT tm x=some (.own b off len n))(hy:evT tm y=some (.val (.int k i)))(hb:(C0 m H b).isLive=true)(hN:LN d N)(h0:0<=i/\i<=len)(hl:i.toNat=l2)
  (h:Reg m P N ops rest ((d,.own b off l2 n)::tm) H K):Reg m P N ops (⟨some d,.slice t x none (some y) none,ty,pos,af,none⟩::rest) tm H K:=by
 subst hl
 obtain⟨cs,hb'⟩:=Eb hb
 refine S.val (OpV.mk fun L w ρ η hη hH=>?_) hN h
 have hv:=(hη y (by simp[Op.operands]) _ hy).val_eq
 obtain⟨k',o',arr,el,lo,hi',g1,g2,g3,g4⟩:=hH b cs hb'
 obtain⟨cap,el2,sz,h1,hc,hsh,hfit⟩:=(hη x (by simp[Op.operands]) _ hx).own_out k' o' g1
 obtain⟨j,rfl⟩:∃j:Nat,i=j:=⟨i.toNat,by omega⟩
 rw[a0q]at*
 have hj:((j:Nat):Int)<=(cap:Int):=by omega
 refine⟨.slice (some ⟨k',o'+off,none⟩) j cap,?_,.own b _ _ n _ (by rw[g1];simp) rfl fun k2 o2 hk2=>?_⟩
 ·have hj0:(0:Int)<=(j:Nat):=a4j _
  simp only[execOp,h1,hv,Instr.sliceAt,a1g,a6x,a0t,run_underlying hu.out,a0o,Instr.slice,Instr.sliceBounds,Instr.sliceBound,asIntOf,a1m,hj,hj0,and_self,if_true,Ax hi.out,a0q,a6e,b2a]
  simp[Bf]
 ·rw[g1]at hk2
  simp only[a0h,a1p]at hk2
  obtain⟨rfl,rfl⟩:=hk2
  exact⟨cap,el2,sz,rfl,by omega,hsh,hfit⟩
theorem p1m{b off n:Nat}{cells l:List AV}{ds:TypeDesc}[hu:HasU P t ds][hi:HasS P t n](hx:evT tm x=some (.ptr b off))(hb:C0 m H b=.live cells)(hd:ds.isRow=true)(hN:LN d N)(hl:(cells.drop off).take n=l)(hle:off+n<=cells.length)(h:Reg m P N ops rest ((d,.agg l)::tm) H K):Reg m P N ops (⟨some d,.load t x,ty,pos,af,none⟩::rest) tm H K:=by
 subst hl
 exact S.val (OpV.loadPA rfl hx hb hu.out hd hi.out (a3f hle)) hN h
theorem S.clearO{b off len n:Nat}{cells:List AV}{zv:Value}[hu:HasU P t (.slice e)][hz:HasZ P e zv](hx:evT tm x=some (.own b off len n))(hb:H.at b=.live cells)(hzs:Nat.beq zv.cells.size n=true)(h1:zv.cells.toList.all Value.oneCell'=true)
  (h:Reg none P N ops rest tm (H.put b (.live (cells.take off))) K):Reg none P N ops (⟨none,.call ⟨.builtin .clear, #[x], #[t]⟩,ty,pos,af,none⟩::rest) tm H K:=by
 refine⟨fun E a w ρ hE hR=>?_⟩
 replace h:=h.out
 refine wpList_plain rfl fun K' hK=>?_
 have hxv:RelV w E.L ρ (.own b off len n) (a.eval x):=hR.ev (by rw[Am];exact hx)
 obtain⟨k,o,c,el,lo,hi,g1,g2,g3,g4,g5,g6⟩:=hR.H.live b _ hb
 obtain⟨cap,e2,n2,hxe,hcap,hsh,hfitc⟩:=hxv.own_out k o g1
 have hcs:n2=c.size:=by
  rw[Dh g2]at hsh
  simp only[a0h,a1p]at hsh
  exact hsh.2.symm
 have hzs':=a2b hzs
 have hlc:len*n<=cap*n:=a3k _ hcap
 cases len with
 |zero=>
  unfold Oper.wp
  rw[show(execOp a.eval ⟨none,.call ⟨.builtin .clear, #[x], #[t]⟩,ty,pos,af,none⟩).run P w=.ok (.value (.tuple #[])) w by
   simp[execOp,resolve,invoke,builtin,hxe,Builtin.clear_,run_underlying hu.out]]
  refine hK _ _ (h E a w ρ hE (hR.reH hb (by simp;omega) fun k o c e lo hi hk hw hc j x hj=>hc j x ?_))
  rw[a6s]at hj
  split at hj
  ·exact hj
  ·cases hj
 |succ len=>
  have hlen:(Builtin.zeroCells zv.cells (len+1)).toList.length=(len+1)*n:=by simp[Builtin.zeroCells,hzs']
  obtain⟨c',w',f1,f2,f3,f4,f5,f6,f7,f8,f9,f10⟩:=Hw (P:=P) (k:=k) (off:=o+off) g3 (Builtin.zeroCells zv.cells (len+1)).toList 0 c w g2 (by rw[hlen];omega) (fun v hv=>by
   simp only[Builtin.zeroCells,a7o,a1d]at hv
   obtain⟨i,hi,rfl⟩:=hv
   have hpos:0<zv.cells.size:=by
    have:i<(len+1)*zv.cells.size:=by simpa using hi
    rcases a3e zv.cells.size with h0|h0
    ·rw[h0]at this;simp at this
    ·exact h0
   have hlt:i%zv.cells.size<zv.cells.size:=a5n _ hpos
   rw[getElem!_pos zv.cells _ hlt]
   exact a0l.1 h1 _ (a4p.2 (a9q hlt)))
  unfold Oper.wp
  rw[show(execOp a.eval ⟨none,.call ⟨.builtin .clear, #[x], #[t]⟩,ty,pos,af,none⟩).run P w=.ok (.value (.tuple #[])) w' by
   simp[execOp,resolve,invoke,builtin,hxe,Builtin.clear_,run_underlying hu.out,Gc hz.out,f1]]
  have hF:Fr (fun j=>j=k) w w':=⟨f7,f8,f9,Nat.le_of_eq f10.symm,fun i _ hn=>f5 i hn,f6⟩
  refine hK _ _ (h E a w' ρ hE (hR.turn hb g1 hF f2 g3 (by rw[f3];simp;omega) fun hla j z hj=>?_))
  rw[a6s]at hj
  split at hj
  ·rename_i hjo
   obtain⟨v,q1,q2⟩:=g6 j z hj
   exact⟨v,by rw[f4,if_neg (by omega)];exact q1,q2.later hla⟩
  ·cases hj
end
section
variable {P:Program}{N:Nat}{ops:Array Oper}
theorem Ords.take{K:Tm->AH->Prop}{n i d:Nat}{listed:Array Bool}{tm:Tm}{H:AH}{op:Op}{ty:TypeId}{pos:String}{af:Array Edge}{r:AV}(ho:ops[i]?=some ⟨some d,op,ty,pos,af,none⟩)(hs:Region.noSelect ops=true)(hf:Region.free .any ops listed i=true)(hr:(Region.ready .any ops listed).contains i=true)(hN:LN d N)
  (hy:∀(L:Nat->Prop)(w:World)(ρ:Pl)(η:Operand->Value),(∀x∈op.operands,∀y,evT tm x=some y->RelV w L ρ y (η x))->∃v,(∀w',(execOp η ⟨some d,op,ty,pos,af,none⟩).run P w'=.ok (.value v) w')/\RelV w L ρ r v)
  (h:Ords P N ops K n (listed.setIfInBounds i true) ((d,r)::tm) H):Ords P N ops K (n+1) listed tm H:=⟨fun E a w ρ hE hR=>by
 obtain⟨v,h1,h2⟩:=hy E.L w ρ a.eval fun x hx y hxy=>hR.ev (by rw[Am];exact hxy)
 exact wpAny_take ho hs hf hr (fun c a w hq=>absurd hq.1 (by simp)) (.inl ⟨rfl,h1⟩) (h.out E _ w ρ hE (hR.put (by rw[hE];exact a0c hN) h2))⟩
theorem p0f{K:Tm->AH->Prop}{n d:Nat}(i:Nat){listed:Array Bool}{tm:Tm}{H:AH}{x:Operand}{ty:TypeId}{pos:String}{af:Array Edge}{r:AV}(ho:ops[i]?=some ⟨some d,.move x,ty,pos,af,none⟩)(hs:Region.noSelect ops=true)(hf:Region.free .any ops listed i=true)(hr:(Region.ready .any ops listed).contains i=true)(hx:evT tm x=some r)(hN:LN d N)
  (h:Ords P N ops K n (listed.setIfInBounds i true) ((d,r)::tm) H):Ords P N ops K (n+1) listed tm H:=
 Ords.take ho hs hf hr hN (fun L w ρ η hη=>⟨η x,fun w'=>by simp[execOp],hη x (by simp[Op.operands]) _ hx⟩) h
theorem p2z{K:Tm->AH->Prop}{n d c:Nat}(i:Nat){listed:Array Bool}{tm:Tm}{H:AH}{x y:Operand}{t e ty:TypeId}{pos:String}{af:Array Edge}{k:IntKind}{j:Int}{rows:List (List Lf)}(ho:ops[i]?=some ⟨some d,.slice t x none (some y) none,ty,pos,af,none⟩)(hs:Region.noSelect ops=true)(hf:Region.free .any ops listed i=true)(hr:(Region.ready .any ops listed).contains i=true)(hx:evT tm x=some (.sl rows))(hy:evT tm y=some (.val (.int k j)))(hN:LN d N)(hu:HasU P t (.slice e))(hi:HasS P e c)(h0:0<=j/\j<=rows.length)(hn:∀row∈rows,row.length=c)
  (h:Ords P N ops K n (listed.setIfInBounds i true) ((d,.sl (rows.take j.toNat))::tm) H):Ords P N ops K (n+1) listed tm H:=by
 refine Ords.take ho hs hf hr hN (fun L w ρ η hη=>?_) h
 have hv:=(hη y (by simp[Op.operands]) _ hy).val_eq
 rcases(hη x (by simp[Op.operands]) _ hx).lf_out.sl_out with⟨rfl,h1⟩|⟨ad,cap,V,h1,hs,hc,h2,h3⟩
 ·have hi0:j=0:=by simp at h0;omega
  subst hi0
  exact⟨.slice none 0 0,fun w'=>by simp[execOp,h1,hv,Instr.sliceAt,run_underlying hu.out,Instr.slice,Instr.sliceBounds,Instr.sliceBound,asIntOf,Ax hi.out],.lf _ _ .slnil⟩
 ·have hp:=RelL.part hs hc h2 h3 (n:=c) (lo:=0) (hi:=j.toNat) (a0k _) (by omega) hn
  simp only[a8e,a6e]at hp
  refine⟨_,fun w'=>?_,.lf _ _ hp⟩
  have hcap:j<=(cap:Int):=by omega
  simp only[execOp,h1,hv,Instr.sliceAt,a1g,a6x,a0t,run_underlying hu.out,a0o,Instr.slice,Instr.sliceBounds,Instr.sliceBound,asIntOf,a1m,h0.1,hcap,and_self,if_true,Ax hi.out,a6e]
  try rfl
theorem p2n{K:Tm->AH->Prop}{n d c:Nat}(i:Nat){listed:Array Bool}{tm:Tm}{H:AH}{x y:Operand}{t e ty:TypeId}{pos:String}{af:Array Edge}{k:IntKind}{j:Int}{rows:List (List Lf)}(ho:ops[i]?=some ⟨some d,.slice t x (some y) none none,ty,pos,af,none⟩)(hs:Region.noSelect ops=true)(hf:Region.free .any ops listed i=true)(hr:(Region.ready .any ops listed).contains i=true)(hx:evT tm x=some (.sl rows))(hy:evT tm y=some (.val (.int k j)))(hN:LN d N)(hu:HasU P t (.slice e))(hi:HasS P e c)(h0:0<=j/\j<=rows.length)(hn:∀row∈rows,row.length=c)
  (h:Ords P N ops K n (listed.setIfInBounds i true) ((d,.sl (rows.drop j.toNat))::tm) H):Ords P N ops K (n+1) listed tm H:=by
 refine Ords.take ho hs hf hr hN (fun L w ρ η hη=>?_) h
 have hv:=(hη y (by simp[Op.operands]) _ hy).val_eq
 rcases(hη x (by simp[Op.operands]) _ hx).lf_out.sl_out with⟨rfl,h1⟩|⟨ad,cap,V,h1,hs,hc,h2,h3⟩
 ·have hi0:j=0:=by simp at h0;omega
  subst hi0
  exact⟨.slice none 0 0,fun w'=>by simp[execOp,h1,hv,Instr.sliceAt,run_underlying hu.out,Instr.slice,Instr.sliceBounds,Instr.sliceBound,asIntOf,Ax hi.out],.lf _ _ .slnil⟩
 ·have hp:=RelL.part hs hc h2 h3 (n:=c) (lo:=j.toNat) (hi:=rows.length) (by omega) (a0n _) hn
  rw[a0g (by simp)]at hp
  refine⟨_,fun w'=>?_,.lf _ _ hp⟩
  have hl:j<=(rows.length:Int):=h0.2
  simp only[execOp,h1,hv,Instr.sliceAt,a1g,a6x,a0t,run_underlying hu.out,a0o,Instr.slice,Instr.sliceBounds,Instr.sliceBound,asIntOf,a1m,h0.1,hl,and_self,if_true,Ax hi.out]
  try rfl
end
theorem Zby{G R:Prop}(r:R)(h:Rest R→G:=by intro r;apply p0f 1;exact rfl;decide+kernel;decide+kernel;decide+kernel;exact rfl;exact rfl;exact r.out):G:=h ⟨r⟩
theorem Zbz{A0:Prop}(a0:A0){A1:Prop}(a1:A1){G R:Prop}(r:R)(h:A0→A1→Rest R→G:=by intro a0 a1 r;apply p1m;(iterate 4 exact rfl);exact a0;exact a1;exact r.out):G:=h a0 a1 ⟨r⟩
theorem Zd1{G R:Prop}(r:R)(h:Rest R→G:=by intro r;apply p0f 4;exact rfl;decide+kernel;decide+kernel;decide+kernel;exact rfl;exact rfl;exact r.out):G:=h ⟨r⟩
theorem Zd6{G R:Prop}(r:R)(h:Rest R→G:=by intro r;apply p0f 3;exact rfl;decide+kernel;decide+kernel;decide+kernel;exact rfl;exact rfl;exact r.out):G:=h ⟨r⟩
theorem Zdm{G R:Prop}(r:R)(h:Rest R→G:=by intro r;apply p0f 24;exact rfl;decide+kernel;decide+kernel;decide+kernel;exact rfl;exact rfl;exact r.out):G:=h ⟨r⟩
theorem Zdp{G R:Prop}(r:R)(h:Rest R→G:=by intro r;apply p0f 0;exact rfl;decide+kernel;decide+kernel;decide+kernel;exact rfl;exact rfl;exact r.out):G:=h ⟨r⟩
theorem Zdq{G R:Prop}(r:R)(h:Rest R→G:=by intro r;apply p0f 5;exact rfl;decide+kernel;decide+kernel;decide+kernel;exact rfl;exact rfl;exact r.out):G:=h ⟨r⟩
end Go.Proofs.YtcaicpnepfjcmaaGreat
