/- Lemmas of the proof. -/
import Derived.Test.YtcaicpnepfjcmaaGreatMc
import Derived.OwnWalk
set_option linter.all false
namespace Go.Proofs.YtcaicpnepfjcmaaGreat
open Go Go.RowKit
def a0q:= @Int.toNat_natCast
def a2s:= @List.mem_singleton
def a2z:= @List.length_replicate
def a3y:= @Int.natCast_mul
def a3z:= @List.getElem?_replicate
def a4g:= @Nat.mul_one
def a4q:= @List.getElem?_set_ne
def a4w:= @Int.le_refl
def a5u:= @Nat.mul_le_mul
def a5w:= @List.getElem?_set_self
def a6u:= @List.map_take
def a8y:= @List.mem_cons_of_mem
def b1x:= @List.map_set
structure FnW(P:Program)(f:FuncId)(cs:List Lf)(zs:List AV)(cs':List Lf)(r:AV):Prop where
 ent:Enters P f
 run:∀(L:Nat->Prop)(w:World)(k o:Nat)(us:List Value),(∀w',Fr (fun j=>j=k) w w'->Glob w')->(∀j,L j->j<w.heap.size)->¬L k->zs.length=us.length->(∀(i:Nat)(x:AV)(u:Value),zs[i]?=some x->us[i]?=some u->RelV w (fun j=>L j\/j=k) Ba x u)->CellsAt w (fun j=>L j\/j=k) k o cs->
  Calls P f (.pointer (some ⟨k,o,none⟩)::us).toArray w fun e' w'=>∃u,e'=.returned u/\RelV w' (fun j=>L j\/j=k) Ba r u/\Fr (fun j=>j=k) w w'/\CellsAt w' (fun j=>L j\/j=k) k o cs'
theorem CellsAt.iff{w:World}{F F':Nat->Prop}{k o:Nat}{cs:List Lf}(h:CellsAt w F k o cs)(hF:∀j,F j↔F' j):CellsAt w F' k o cs:=by
 have:F=F':=funext fun j=>propext (hF j)
 exact this▸h
theorem RelV.iffF{w:World}{F F':Nat->Prop}{x:AV}{v:Value}(h:RelV w F Ba x v)(hF:∀j,F j↔F' j):RelV w F' Ba x v:=by
 have:F=F':=funext fun j=>propext (hF j)
 exact this▸h
theorem RelV.lessF{w:World}{F F':Nat->Prop}{x:AV}{v:Value}(h:RelV w F Ba x v)(hF:∀j,F' j->F j):RelV w F' Ba x v:=by
 have hFb:∀j,Fb F' Ba j->Fb F Ba j:=fun j hj=>.inl (hF j ((F2 _ _).1 hj))
 induction h with
 |lf x v h=>exact .lf x v (h.less hFb)
 |agg cs vs hl h ih=>exact .agg cs vs hl ih
 |tup cs vs hl h ih=>exact .tup cs vs hl ih
 |rop cs ad V hs h1 h2=>exact .rop cs ad V hs (fun j x hj=>⟨fun hf=>(h1 j x hj).1 (hFb _ hf),(h1 j x hj).2⟩) (fun j x hj=>(h2 j x hj).less hFb)
 |ptr b off v hb h1 h=>exact absurd rfl hb
 |own b off len st v hb h1 h=>exact absurd rfl hb
 |mp b v hb h1 h=>exact absurd rfl hb
 |fn f fs cs us vs a b h k ih1 ih2=>exact .fn f fs cs us vs a b ih1 ih2
 |err t u=>exact .err t u
theorem CellsAt.lessF{w:World}{F F':Nat->Prop}{k o:Nat}{cs:List Lf}(h:CellsAt w F k o cs)(hF:∀j,F' j->F j):CellsAt w F' k o cs:=by
 obtain⟨c,e,lo,hi,g1,g2,g3,g4⟩:=h
 refine⟨c,e,lo,hi,g1,g2,g3,fun j x hj=>?_⟩
 obtain⟨v,g5,g6⟩:=g4 j x hj
 exact⟨v,g5,g6.less hF⟩
def G1(P:Program)(fn:Func)(k o:Nat)(cs':List Lf)(r:AV)(e:Exit)(st:St):Prop:=(e=.normal\/e=.ret)/\∃xs,ResL P st fn.results.toList xs/\(N7 xs).tree=true/\N7 xs=r/\st.H.at 0=.hot k o cs'
theorem Hh{P:Program}{fn:Func}{k o:Nat}{cs':List Lf}{r:AV}{e:Exit}{tm:Tm}{H:AH}(xs:List AV)(he:e=.normal\/e=.ret)(hr:ResL P ⟨tm,H⟩ fn.results.toList xs)(h1:(N7 xs).tree=true)(h2:N7 xs=r)(hh:H.at 0=.hot k o cs'):G1 P fn k o cs' r e ⟨tm,H⟩:=⟨he,xs,hr,h1,h2,hh⟩
theorem FnW.of{P:Program}{f:FuncId}{fn:Func}{c:Code}{cs:List Lf}{zs:List AV}{cs':List Lf}{r:AV}{N:Nat}(hf:P.funcs[f]?=some fn)(hnt:fn.ntmps=N)(hb:fn.body=some c)(hn:(fn.name== "runtime.NumGoroutine")=false)(hN:Nat.ble (zs.length+1) N=true)
  (h:∀k o,T P N c ⟨(0,.ptr 0 0)::Ak 1 zs,[.hot k o cs]⟩ (G1 P fn k o cs' r)):FnW P f cs zs cs' r:=by
 subst hnt
 refine⟨⟨fn,hf,hn,by rw[hb];rfl⟩,fun L w k o us hG hL hLk hl hv hc=>?_⟩
 have hN':=a0c hN
 refine calls_of_wp hf hb ?_
 let E:Env:={N:=fn.ntmps,L:=L,O:=fun j=>j=k,w0:=w,good:=hG}
 let ρ:Pl:=fun b=>match b with|0=>some (some (k,o))|_+1=>none
 have hFb:∀j,(L j\/j=k)↔Fb L ρ j:=fun j=>by
  constructor
  ·rintro(h|rfl)
   ·exact .inl h
   ·exact .inr ⟨0,o,rfl⟩
  ·rintro(h|⟨b,o',h⟩)
   ·exact .inl h
   ·cases b with
    |zero=>injection h with h;injection h with h;injection h with h _;exact .inr h.symm
    |succ b=>cases h
 have hlen:(Value.pointer (some ⟨k,o,none⟩)::us).length=zs.length+1:=by simp[hl]
 have hsz:((Value.pointer (some ⟨k,o,none⟩)::us).toArray++Array.replicate (fn.ntmps-(Value.pointer (some ⟨k,o,none⟩)::us).toArray.size) undef).size=fn.ntmps:=by simp;omega
 have hkw:k<w.heap.size:=by
  obtain⟨c,e,lo,hi,g1,_⟩:=hc
  exact Cl g1
 have hst:RelSt E ⟨(0,.ptr 0 0)::Ak 1 zs,[.hot k o cs]⟩ {tmps:=(Value.pointer (some ⟨k,o,none⟩)::us).toArray++Array.replicate (fn.ntmps-(Value.pointer (some ⟨k,o,none⟩)::us).toArray.size) undef,defers:=[]} w ρ:=by
  have hat:∀{t:Nat}{u:Value},(Value.pointer (some ⟨k,o,none⟩)::us)[t]?=some u->((Value.pointer (some ⟨k,o,none⟩)::us).toArray++Array.replicate (fn.ntmps-(Value.pointer (some ⟨k,o,none⟩)::us).toArray.size) undef).getD t undef=u:=fun {t u} hu=>by
   have ht:=(a0f.1 hu).1
   rw[a0r,a1r (by simpa using ht)]
   simp only[List.getElem?_toArray,hu,a1a]
  have hone:∀(b:Nat)(x:HB),AH.at [HB.hot k o cs] b=x->x≠.free->b=0/\x=.hot k o cs:=fun b x hx hne=>by
   cases b with
   |zero=>exact⟨rfl,hx.symm⟩
   |succ b=>simp[AH.at]at hx;exact absurd hx.symm hne
  refine⟨hsz,rfl,fun t x hx=>?_,⟨fun b hb=>?_,fun b hb=>?_,fun b cs hb=>?_,fun b cs hb=>?_,fun b b' j o1 o2 h1 h2=>?_,⟨fun b T e b2 s hb=>?_,fun b hb=>?_,fun b b' T e T' e' b2 s s' h1 h2=>?_,fun b k1 o1 cs1 hb=>?_,fun b cs1 vs1 hb=>absurd (hone b _ hb (by simp)).2 (by simp)⟩⟩,Fr.refl _ _,fun b j o1 h1=>?_,hL⟩
  ·rw[p0w]at hx
   by_cases e0:0=t
   ·subst e0
    rw[if_pos rfl]at hx
    injection hx with hx
    subst hx
    refine⟨by show 0<fn.ntmps;omega,?_⟩
    have h0:=hat (t:=0) rfl
    refine .ptr 0 0 _ (by simp[ρ]) (by show Value.oneCell' (Array.getD _ 0 undef)=true;rw[h0];rfl) fun k1 o1 hk1=>?_
    show Array.getD _ 0 undef=_
    rw[h0]
    injection hk1 with hk1
    injection hk1 with hk1
    injection hk1 with hk1 hk2
    subst hk1 hk2
    rfl
   ·rw[if_neg e0]at hx
    obtain⟨h1,h2⟩:=Is _ _ _ _ hx
    have ht:t-1<zs.length:=(a0f.1 h2).1
    refine⟨by show t<fn.ntmps;omega,?_⟩
    have hu:us[t-1]?=some (us[t-1]'(by omega)):=a0b _
    obtain⟨u,hu'⟩:∃u,us[t-1]?=some u:=⟨_,hu⟩
    have h0:=hat (t:=t) (u:=u) (by
     obtain⟨t',rfl⟩:∃t',t=t'+1:=⟨t-1,by omega⟩
     rw[a2l]
     exact hu')
    show RelV w L ρ x (Array.getD _ t undef)
    rw[h0]
    exact((hv (t-1) x _ h2 hu').iffF hFb).dress
  ·cases b with
   |zero=>cases hb
   |succ b=>rfl
  ·exact absurd (hone _ _ hb (by simp)).2 (by simp)
  ·exact absurd (hone _ _ hb (by simp)).2 (by simp)
  ·exact absurd (hone _ _ hb (by simp)).2 (by simp)
  ·cases b with
   |zero=>cases b' with
    |zero=>rfl
    |succ b'=>cases h2
   |succ b=>cases h1
  ·exact absurd (hone _ _ hb (by simp)).2 (by simp)
  ·exact absurd (hone _ _ hb (by simp)).2 (by simp)
  ·exact absurd (hone _ _ h1 (by simp)).2 (by simp)
  ·obtain⟨rfl,he⟩:=hone _ _ hb (by simp)
   injection he with e1 e2 e3
   subst e1 e2 e3
   exact⟨rfl,hLk,hc.iff hFb⟩
  ·cases b with
   |zero=>injection h1 with h1;injection h1 with h1;injection h1 with h1 _;exact .inl ⟨h1.symm,rfl⟩
   |succ b=>cases h1
 refine wp_mono ((h k o).out E _ w ρ rfl hst) ?_
 rintro e a' w' ⟨st',ρ',⟨he,xs,hxs,htree,hr,hhot⟩,hr'⟩
 obtain⟨us',h1,h2,h3⟩:=hxs.run hr'
 have hres:=Ht (fn:=fn) h1
 obtain⟨q1,q2,q3⟩:=hr'.H.ext.hot 0 k o cs' hhot
 have hsub:∀j,(L j\/j=k)->Fb L ρ' j:=fun j hj=>by
  rcases hj with hj|rfl
  ·exact .inl hj
  ·exact .inr ⟨0,o,q1⟩
 have hrel:RelV w' (fun j=>L j\/j=k) Ba r (Sj us'):=by
  have:RelV w' L ρ' (N7 xs) (Sj us'):=by
   match xs,us',h2,h3 with
   |[x],[u],_,h3=>exact h3 0 x u rfl rfl
   |[],[],h2,h3=>exact .tup [] [] rfl (fun i x u h=>by simp at h)
   |x::y::xs,u::v::us,h2,h3=>exact .tup _ (u::v::us) h2 h3
  rw[<-hr]
  exact(this.bare htree).lessF hsub
 rcases he with rfl|rfl
 ·exact⟨hr'.defers,_,hres,_,rfl,hrel,hr'.fr,q3.lessF hsub⟩
 ·exact⟨hr'.defers,_,hres,_,rfl,hrel,hr'.fr,q3.lessF hsub⟩
theorem RelSt.hotTurn{E:Env}{tm:Tm}{H:AH}{a:Act}{w w':World}{ρ:Pl}(h:RelSt E ⟨tm,H⟩ a w ρ){b k o:Nat}{cs cs':List Lf}(hb:H.at b=.hot k o cs)(hF:Fr (fun j=>j=k) w w')(hc:CellsAt w' (Fb E.L ρ) k o cs'):RelSt E ⟨tm,H.put b (.hot k o cs')⟩ a w' ρ:=by
 obtain⟨q1,q2,q3⟩:=h.H.ext.hot b k o cs hb
 have hkF:Fb E.L ρ k:=.inr ⟨b,o,q1⟩
 have hla:Later E.L w ρ w' ρ:=⟨fun _ _=>.inl rfl,fun j o' u h1 h2=>⟨by
  rw[a3d (w:=w) (hF.block j (Ef h2) fun e=>h1 (e▸hkF))];exact h2,h1⟩,hF.shape⟩
 have hother:∀{b' j o':Nat},b'≠b->ρ b'=some (some (j,o'))->w'.heap[j]?=w.heap[j]?:=fun {b' j o'} hne hj=>
  hF.block j (h.H.lt hj) fun e=>hne (h.H.dist _ _ j _ o hj (e▸q1))
 refine h.move hla ⟨fun b' hb'=>?_,fun b' hb'=>?_,fun b' cs1 hb'=>?_,fun b' es hb'=>?_,h.H.dist,h.H.ext.put hla.cell (by rw[hb];rfl) rfl (fun _ _=>rfl) hF.size (fun _ _ _ _ _ _ _ _ h=>h.later hla) (fun b' j o' hne hj=>hother hne hj) fun k1 o1 cs1 e=>?_⟩ (hF.mono fun j hj e=>by subst e;exact h.mineO q1) fun b' j o' hj=>h.minePut b rfl hj
 ·rw[p0e]at hb'
  split at hb'
  ·cases hb'
  ·exact h.H.free b' hb'
 ·rw[p0e]at hb'
  split at hb'
  ·cases hb'
  ·exact h.H.dead b' hb'
 ·rw[p0e]at hb'
  split at hb'
  ·cases hb'
  ·rename_i hne
   obtain⟨k0,o0,c,el,lo,hi,g1,g2,g3,g4,g5,g6⟩:=h.H.live b' cs1 hb'
   refine⟨k0,o0,c,el,lo,hi,g1,by rw[hother hne g1];exact g2,g3,g4,g5,fun j x hj=>?_⟩
   obtain⟨v,f1,f2⟩:=g6 j x hj
   exact⟨v,f1,f2.later hla⟩
 ·rw[p0e]at hb'
  split at hb'
  ·cases hb'
  ·rename_i hne
   obtain⟨k0,entries,clock,g1,g2,g3,g4⟩:=h.H.map b' es hb'
   exact⟨k0,entries,clock,g1,by rw[hother hne g1];exact g2,g3,g4⟩
 ·injection e with e1 e2 e3
  subst e1 e2 e3
  exact⟨q1,q2,hc⟩
theorem RelSt.heat{E:Env}{tm:Tm}{H:AH}{a:Act}{w:World}{ρ:Pl}(h:RelSt E ⟨tm,H⟩ a w ρ){b:Nat}{cs:List Lf}{cells:List AV}(hb:H.at b=.live cells)(hcs:cells=cs.map .lf):∃k o,RelSt E ⟨tm,H.put b (.hot k o cs)⟩ a w ρ:=by
 subst hcs
 obtain⟨k,o,c,el,lo,hi,g1,g2,g3,g4,g5,g6⟩:=h.H.live b _ hb
 have hput:∀{b':Nat}{x:HB},(H.put b (.hot k o cs)).at b'=x->x.isHot=false->H.at b'=x:=fun {b' x} hx hn=>by
  rw[p0e]at hx
  split at hx
  ·rw[<-hx]at hn;cases hn
  ·exact hx
 refine⟨k,o,h.move (Later.refl _ _ _) ⟨fun b' hb'=>h.H.free b' (hput hb' rfl),fun b' hb'=>h.H.dead b' (hput hb' rfl),fun b' cs1 hb'=>h.H.live b' cs1 (hput hb' rfl),fun b' es hb'=>h.H.map b' es (hput hb' rfl),h.H.dist,h.H.ext.put (Later.refl _ _ _).cell (by rw[hb];rfl) rfl (fun _ _=>rfl) (a0n _) (fun _ _ _ _ _ _ _ _ h=>h) (fun _ _ _ _ _=>rfl) fun k1 o1 cs1 e=>?_⟩ (Fr.refl _ _) fun b' j o' hj=>h.minePut b rfl hj⟩
 injection e with e1 e2 e3
 subst e1 e2 e3
 refine⟨g1,g5,c,el,lo,hi,g2,g3,by simpa using g4,fun j x hj=>?_⟩
 obtain⟨v,f1,f2⟩:=g6 j (.lf x) (by rw[a0d,hj];rfl)
 exact⟨v,f1,f2.lf_out⟩
theorem RelSt.cool{E:Env}{tm:Tm}{H:AH}{a:Act}{w:World}{ρ:Pl}(h:RelSt E ⟨tm,H⟩ a w ρ){b k o:Nat}{cs:List Lf}(hb:H.at b=.hot k o cs):RelSt E ⟨tm,H.put b (.live (cs.map .lf))⟩ a w ρ:=by
 obtain⟨q1,q2,c,e,lo,hi,g1,g2,g3,g4⟩:=h.H.ext.hot b k o cs hb
 have hput:∀{b':Nat}{x:HB},(H.put b (.live (cs.map .lf))).at b'=x->x.isLive=false->H.at b'=x:=fun {b' x} hx hn=>by
  rw[p0e]at hx
  split at hx
  ·rw[<-hx]at hn;cases hn
  ·exact hx
 refine h.move (Later.refl _ _ _) ⟨fun b' hb'=>h.H.free b' (hput hb' rfl),fun b' hb'=>h.H.dead b' (hput hb' rfl),fun b' cs1 hb'=>?_,fun b' es hb'=>h.H.map b' es (hput hb' rfl),h.H.dist,h.H.ext.put (Later.refl _ _ _).cell (by rw[hb];rfl) rfl (fun _ _=>rfl) (a0n _) (fun _ _ _ _ _ _ _ _ h=>h) (fun _ _ _ _ _=>rfl)⟩ (Fr.refl _ _) fun b' j o' hj=>h.minePut b rfl hj
 rw[p0e]at hb'
 split at hb'
 ·rename_i e1
  injection hb' with hb'
  subst hb' e1
  refine⟨k,o,c,e,lo,hi,q1,g1,g2,by simpa using g3,q2,fun j x hj=>?_⟩
  rw[a0d]at hj
  cases hx:cs[j]? with
  |none=>rw[hx]at hj;cases hj
  |some y=>
   rw[hx]at hj
   simp only[a1g,a0h]at hj
   subst hj
   obtain⟨v,f1,f2⟩:=g4 j y hx
   exact⟨v,f1,.lf _ _ f2⟩
 ·exact h.H.live b' cs1 hb'
theorem p4m{P:Program}{f:FuncId}{cs:List Lf}{zs:List AV}{r:AV}(h:Fn0 P f (.rop cs::zs) r)(hr:r.plain=true):FnW P f cs zs cs r:=by
 refine⟨h.ent,fun L w k o us hG hL hLk hl hv hc=>?_⟩
 obtain⟨c,e,lo,hi,g1,g2,g3,g4⟩:=hc
 have hV:∀(j:Nat)(x:Lf),cs[j]?=some x->c[o+j]?=some (c.getD (o+j) undef)/\RelL w (fun j=>L j\/j=k) x (c.getD (o+j) undef):=fun j x hj=>by
  obtain⟨v,g5,g6⟩:=g4 j x hj
  have:c.getD (o+j) undef=v:=by rw[a0r,g5];rfl
  rw[this]
  exact⟨g5,g6⟩
 refine(h.run L w (.pointer (some ⟨k,o,none⟩)::us) (hG w (Fr.refl _ _)) hL (by simp[hl]) fun i x v hx hv'=>?_).mono ?_
 ·cases i with
  |zero=>
   simp only[a2f,a0h]at hx hv'
   subst hx hv'
   exact .rop cs ⟨k,o,none⟩ (fun j=>c.getD (o+j) undef) rfl (fun j x hj=>⟨fun hf=>hLk ((F2 _ _).1 hf),Bi g1 (hV j x hj).1⟩) fun j x hj=>(hV j x hj).2.less fun j hj=>.inl ((F2 _ _).1 hj)
  |succ i=>
   simp only[a2l]at hx hv'
   exact(hv i x v hx hv').lessF fun j hj=>.inl hj
 ·rintro e' w' ⟨u,rfl,hu,hbel⟩
  have hk:=Cl g1
  have hblk:=hbel.block k hk
  refine⟨u,rfl,hu.plain hr,(p1z hbel).mono fun _ _ h=>h.elim,c,e,lo,hi,by rw[hblk];exact g1,g2,g3,fun j x hj=>?_⟩
  obtain⟨v,g5,g6⟩:=g4 j x hj
  exact⟨v,g5,g6.later fun k' o' u h1 h2=>⟨by rw[a3d (w:=w) (hbel.block k' (Ef h2))];exact h2,h1⟩⟩
section
variable {P:Program}{N:Nat}{ops:Array Oper}{m:Option Nat}{K:Tm->AH->Prop}{tm tm':Tm}{H:AH}{rest:List Oper}{ty:TypeId}{pos:String}{af:Array Edge}{d:Nat}{t e:TypeId}{x y z:Operand}
theorem T.heat{c:Code}{Q:Exit->St->Prop}(b:Nat)(cs:List Lf){cells:List AV}(hb:H.at b=.live cells)(hcs:cells=cs.map .lf)(h:∀k o,T P N c ⟨tm,H.put b (.hot k o cs)⟩ Q):T P N c ⟨tm,H⟩ Q:=⟨fun E a w ρ hE hr=>by
 obtain⟨k,o,hr'⟩:=hr.heat hb hcs
 exact(h k o).out E a w ρ hE hr'⟩
theorem T.cool{c:Code}{Q:Exit->St->Prop}(b:Nat){k o:Nat}{cs:List Lf}(hb:H.at b=.hot k o cs)(h:T P N c ⟨tm,H.put b (.live (cs.map .lf))⟩ Q):T P N c ⟨tm,H⟩ Q:=⟨fun E a w ρ hE hr=>h.out E a w ρ hE (hr.cool hb)⟩
def callee:Operand->Option FuncId
 | .func f=>some f
 |_=>none
theorem A4s{o:Oper}{ev:Operand->Option AV}{b k o':Nat}{f:FuncId}{x:Operand}{xs:List Operand}{ts:Array TypeId}{ys:List AV}{cs cs':List Lf}{r:AV}{g:Operand}(hp:FnW P f cs ys cs' r)(ho:o.op=.call ⟨.value g,(x::xs).toArray,ts⟩)(hg:ev g=some (.fn (.func f) [] []))(hx0:ev x=some (.ptr b 0))(hx:evs ev xs=some ys)(ht:ys.all AV.tree=true):Ahj P o ev b (.hot k o' cs) (.hot k o' cs') r:=fun E tm H a w ρ K Q hR he hb hK=>by
 obtain⟨g1,g2⟩:=Ff _ _ hx
 obtain⟨q1,q2,q3⟩:=hR.H.ext.hot b k o' cs hb
 have hops:∀z,z=g\/z∈x::xs->z∈o.op.operands:=fun z hz=>by
  rw[ho]
  rcases hz with rfl|hz
  ·simp[Op.operands,Call.operands]
  ·exact a5t.2 (.inr (by simpa using hz))
 have hxv:a.eval x=.pointer (some ⟨k,o',none⟩):=by
  have:=(hR.ev (by rw[Am];exact he x (hops x (.inr (by simp))) _ hx0)).ptr_out k o' q1
  simpa using this
 have hgv:a.eval g=.func (.func f) #[] #[]:=by
  have h2:RelV w E.L ρ (.fn (.func f) [] []) (a.eval g):=hR.ev (by rw[Am];exact he g (hops g (.inl rfl)) _ hg)
  obtain⟨us,vs,e1,e2,e3,_⟩:=h2.fn_out
  cases us with
  |nil=>cases vs with
   |nil=>exact e1
   |cons _ _=>simp at e3
  |cons _ _=>simp at e2
 have hrun:(execOp a.eval o).run P w=.ok (.enter f (.pointer (some ⟨k,o',none⟩)::xs.map a.eval).toArray) w:=by
  have:(execOp a.eval o).run P w=(callFunc f (#[]++(x::xs).toArray.map a.eval++ #[])).run P w:=by simp[execOp,ho,resolve,hgv,Deferred.ofValue,invoke]
  rw[this,hp.ent.run]
  simp only[a5o,a5a,true_and,and_true]
  apply a6m
  simp[hxv]
 have hkF:Fb E.L ρ k:=.inr ⟨b,o',q1⟩
 have hFb:∀j,((Fb E.L ρ j/\j≠k)\/j=k)↔Fb E.L ρ j:=fun j=>by
  constructor
  ·rintro(h|rfl)
   ·exact h.1
   ·exact hkF
  ·intro h
   by_cases e:j=k
   ·exact .inr e
   ·exact .inl ⟨h,e⟩
 have hFb':∀j,Fb E.L ρ j↔((Fb E.L ρ j/\j≠k)\/j=k):=fun j=>(hFb j).symm
 unfold Oper.wp
 rw[hrun]
 refine(hp.run (fun j=>Fb E.L ρ j/\j≠k) w k o' (xs.map a.eval) (fun w' hF=>?_) (fun j hj=>hR.fb_lt j hj.1) (fun h=>h.2 rfl) (by rw[a0e];exact g1.symm) (fun i y u hy hu=>?_) (q3.iff hFb')).mono ?_
 ·exact E.good w' (hR.fr.trans (hF.mono fun j _ e=>by subst e;exact hR.mineO q1))
 ·obtain⟨z,h5,h6⟩:=g2 i y hy
  rw[a0d,h5]at hu
  simp only[a1g,a0h]at hu
  subst hu
  exact((hR.ev (by rw[Am];exact he z (hops z (.inr (a8y _ (a0a h5)))) y h6)).bare (a0l.1 ht y (a0a hy))).iffF hFb'
 ·rintro e' w' ⟨u,rfl,hu,hF,hc⟩
  exact hK w' u (hR.hotTurn hb hF (hc.iff hFb)) (hu.iffF hFb).dress
theorem p0r{b k o:Nat}{f:FuncId}{g:Operand}{xs:List Operand}{ts:Array TypeId}{ys:List AV}{cs cs':List Lf}{r:AV}(hg:evT tm g=some (.fn (.func f) [] []))(hx0:evT tm x=some (.ptr b 0))(hx:evs (evT tm) xs=some ys)(hb:H.at b=.hot k o cs)(ht:ys.all AV.tree=true)(hp:FnW P f cs ys cs' r)(hN:LN d N)
  (h:Reg none P N ops rest ((d,r)::tm) (H.put b (.hot k o cs')) K):Reg none P N ops (⟨some d,.call ⟨.value g,(x::xs).toArray,ts⟩,ty,pos,af,none⟩::rest) tm H K:=by
 refine⟨fun E a w ρ hE hR=>?_⟩
 replace h:=h.out
 refine wpList_plain rfl fun K' hK=>?_
 exact A4s hp rfl hg hx0 hx ht E tm H a w ρ K' _ hR (fun _ _ _ h=>h) hb fun w' v s2 hv=>hK _ _ (h E _ w' ρ hE (s2.put (by rw[hE];exact a0c hN) hv))
theorem p0n{n0 b k o:Nat}{f:FuncId}{g:Operand}{xs:List Operand}{ts:Array TypeId}{ys:List AV}{cs cs':List Lf}{r:AV}(hg:evT tm g=some (.fn (.func f) [] []))(hx0:evT tm x=some (.ptr b 0))(hx:evs (evT tm) xs=some ys)(hb:H.at b=.hot k o cs)(hm:Nat.ble (b+1) n0=true)(ht:ys.all AV.tree=true)(hp:FnW P f cs ys cs' r)(hN:LN d N)
  (h:Reg (some n0) P N ops rest ((d,r)::tm) (H.put b (.hot k o cs')) K):Reg (some n0) P N ops (⟨some d,.call ⟨.value g,(x::xs).toArray,ts⟩,ty,pos,af,none⟩::rest) tm H K:=by
 refine⟨?_⟩
 obtain⟨ss,g1,g2⟩:=h.out
 exact⟨.cal r b k o cs'::ss,⟨⟨a0c hN,rfl,g1⟩,rfl,⟨k,o,cs,hb,A4s hp rfl hg hx0 hx ht⟩,a0c hm,rfl⟩,g2⟩
theorem p0z{i off b o2 k o:Nat}{cs:List Lf}[hf:HasF P t i off](hx:evT tm x=some (.ptr b o2))(hb:H.at b=.hot k o cs)(hN:LN d N)(h:Reg none P N ops rest ((d,.ptr b (o2+off))::tm) H K):Reg none P N ops (⟨some d,.fieldAddr t x i,ty,pos,af,none⟩::rest) tm H K:=by
 refine⟨fun E a w ρ hE hR=>?_⟩
 replace h:=h.out
 refine wpList_plain rfl fun K' hK=>?_
 obtain⟨q1,q2,q3⟩:=hR.H.ext.hot b k o cs hb
 have hxv:=(hR.ev (by rw[Am];exact hx):RelV w E.L ρ (.ptr b o2) (a.eval x)).ptr_out k o q1
 obtain⟨fs,f,n,h1,h2,h3,h4,h5⟩:=hf.out
 unfold Oper.wp
 subst h5
 rw[show(execOp a.eval ⟨some d,.fieldAddr t x i,ty,pos,af,none⟩).run P w=.ok (.value (.pointer (some ⟨k,o+(o2+f.offset),none⟩))) w by
  simp only[execOp,hxv,a0t,Kh h1 h2 h3 h4,a0o,a1m,Bf,a1t]]
 refine hK _ _ (h E _ w ρ hE (hR.put (by rw[hE];exact a0c hN) (.ptr b _ _ (by rw[q1];simp) rfl fun k1 o1 hk=>?_)))
 rw[q1]at hk
 injection hk with hk
 injection hk with hk
 injection hk with hk hk2
 subst hk hk2
 rfl
theorem p0o{b off k o:Nat}{cs:List Lf}(hx:evT tm x=some (.ptr b off))(hb:H.at b=.hot k o cs)(hN:LN d N)(h:Reg none P N ops rest ((d,.ptr b off)::tm) H K):Reg none P N ops (⟨some d,.nilCheck x,ty,pos,af,none⟩::rest) tm H K:=by
 refine⟨fun E a w ρ hE hR=>?_⟩
 replace h:=h.out
 refine wpList_plain rfl fun K' hK=>?_
 obtain⟨q1,q2,q3⟩:=hR.H.ext.hot b k o cs hb
 have hxr:RelV w E.L ρ (.ptr b off) (a.eval x):=hR.ev (by rw[Am];exact hx)
 have hxv:=hxr.ptr_out k o q1
 unfold Oper.wp
 rw[show(execOp a.eval ⟨some d,.nilCheck x,ty,pos,af,none⟩).run P w=.ok (.value (a.eval x)) w by simp[execOp,hxv]]
 exact hK _ _ (h E _ w ρ hE (hR.put (by rw[hE];exact a0c hN) hxr))
theorem p1e{b off k o:Nat}{cs:List Lf}{c:Lf}{ds:TypeDesc}[hu:HasU P t ds](hx:evT tm x=some (.ptr b off))(hb:H.at b=.hot k o cs)(hd:ds.isRow=false)(hc:cs[off]?=some c)(hN:LN d N)(h:Reg none P N ops rest ((d,.lf c)::tm) H K):Reg none P N ops (⟨some d,.load t x,ty,pos,af,none⟩::rest) tm H K:=by
 refine⟨fun E a w ρ hE hR=>?_⟩
 replace h:=h.out
 refine wpList_plain rfl fun K' hK=>?_
 obtain⟨q1,q2,arr,e,lo,hi,g1,g2,g3,g4⟩:=hR.H.ext.hot b k o cs hb
 have hxv:=(hR.ev (by rw[Am];exact hx):RelV w E.L ρ (.ptr b off) (a.eval x)).ptr_out k o q1
 obtain⟨v,g5,g6⟩:=g4 off c hc
 unfold Oper.wp
 rw[show(execOp a.eval ⟨some d,.load t x,ty,pos,af,none⟩).run P w=.ok (.value v) w by simp[execOp,hxv,Instr.loadAt,Instr.sureAddr,Hq hu.out hd (Bi g1 g5)]]
 exact hK _ _ (h E _ w ρ hE (hR.put (by rw[hE];exact a0c hN) (.lf _ _ g6)))
theorem p1a{b off k o:Nat}{cs:List Lf}{c:Lf}[hi:HasS P t 1](hx:evT tm x=some (.ptr b off))(hb:H.at b=.hot k o cs)(hy:evT tm y=some (.lf c))(h1:c.one=true)(hl:Nat.ble (off+1) cs.length=true)(h:Reg none P N ops rest tm (H.put b (.hot k o (cs.set off c))) K):Reg none P N ops (⟨none,.store t x y,ty,pos,af,none⟩::rest) tm H K:=by
 refine⟨fun E a w ρ hE hR=>?_⟩
 replace h:=h.out
 refine wpList_plain rfl fun K' hK=>?_
 obtain⟨q1,q2,arr,e,lo,hi',g1,g2,g3,g4⟩:=hR.H.ext.hot b k o cs hb
 have hxv:=(hR.ev (by rw[Am];exact hx):RelV w E.L ρ (.ptr b off) (a.eval x)).ptr_out k o q1
 have hyv:RelV w E.L ρ (.lf c) (a.eval y):=hR.ev (by rw[Am];exact hy)
 have hl':=a0c hl
 have hone:=hyv.lf_out.one h1
 have hcell:w.cell? ⟨k,o+off,none⟩=some (arr[o+off]'(by omega)):=Bi g1 (a2e _)
 have hfz:w.frozen? ⟨k,o+off,none⟩=false:=by
  simp only[World.frozen?,g1]
  simp
  omega
 have hst:(Go.store ⟨k,o+off,none⟩ (a.eval y)).run P w=.ok () (w.setCell ⟨k,o+off,none⟩ (a.eval y)):=by
  rw[run_store P w _ _ _ hone]
  simp[hcell,hfz]
 have hcells:(a.eval y).cells= #[a.eval y]:=by
  generalize a.eval y=v at hone
  cases v<;>first|rfl|cases hone
 unfold Oper.wp
 rw[show(execOp a.eval ⟨none,.store t x y,ty,pos,af,none⟩).run P w=.ok .skip (w.setCell ⟨k,o+off,none⟩ (a.eval y)) by
  simp only[execOp,hxv,Instr.storeAt,Instr.sureAddr,a0t,a1m,a0o,storeVar,Ax hi.out]
  rw[if_neg (by rw[hcells];simp)]
  simp only[hcells,storeCells,a0t,Bf,a3b,hst,a0o]
  rfl]
 have hF:Fr (fun j=>j=k) w (w.setCell ⟨k,o+off,none⟩ (a.eval y)):=⟨rfl,rfl,rfl,by simp[World.setCell],fun i _ hn=>Below.heap_setCell w _ _ i hn,fun i x hx=>by rw[Gh];exact hx⟩
 have hkF:Fb E.L ρ k:=.inr ⟨b,o,q1⟩
 have hm:∀j o' u,¬Fb E.L ρ j->w.cell? ⟨j,o',none⟩=some u->(w.setCell ⟨k,o+off,none⟩ (a.eval y)).cell? ⟨j,o',none⟩=some u/\¬Fb E.L ρ j:=fun j o' u h1 h2=>⟨by
  rw[a3d (w:=w) (hF.block j (Ef h2) fun e=>h1 (e▸hkF))];exact h2,h1⟩
 refine hK _ _ (h E a _ ρ hE (hR.hotTurn hb hF ⟨_,e,lo,hi',heap_setCell w k (o+off) _ arr e _ g1,g2,by simpa using g3,fun j z hj=>?_⟩))
 rw[a9s]at hj
 by_cases e2:off=j
 ·subst e2
  rw[if_pos rfl,if_pos (by omega)]at hj
  injection hj with hj
  subst hj
  exact⟨a.eval y,by rw[a3l];simp;omega,hyv.lf_out.later hm⟩
 ·rw[if_neg e2]at hj
  obtain⟨u,g5,g6⟩:=g4 j z hj
  exact⟨u,by rw[a3l,if_neg (by omega)];exact g5,g6.later hm⟩
end
section
variable {P:Program}{N:Nat}{ops:Array Oper}{m:Option Nat}{K:Tm->AH->Prop}{tm tm':Tm}{H:AH}{rest:List Oper}{ty:TypeId}{pos:String}{af:Array Edge}{d:Nat}{t e u:TypeId}{x y z:Operand}
theorem p3c{b n nb:Nat}{zv:Value}[hu:HasU P t (.slice e)][hi:HasS P e 1][hz:HasZ P e zv][hby:HasB P e nb](hb':H.nextId=some b)(hx:evT tm x=some (.val (.int .i64 (n:Int))))(hzc:zv.cells= #[zv])(hl:n<=1000000)(hnb:Nat.ble nb 1048576=true)(hN:LN d N)
  (h:Reg none P N ops rest ((d,.own b 0 n 1)::tm) (H.put b (.live (List.replicate n (.val zv)))) K):Reg none P N ops (⟨some d,.makeSlice t x x,ty,pos,af,none⟩::rest) tm H K:=by
 refine⟨fun E a w ρ hE hR=>?_⟩
 replace h:=h.out
 refine wpList_plain rfl fun K' hK=>?_
 have hlen:=Kk hb'
 have hf:H.at b=.free:=by subst hlen;exact p2y H
 have hv:=(hR.ev (by rw[Am];exact hx):RelV w E.L ρ (.val (.int .i64 (n:Int))) (a.eval x)).val_eq
 obtain⟨i,hi1,hi2,hi3,hi4⟩:∃i,P.info? e=some i/\i.zero=some zv/\i.size=1/\i.bytes=nb:=by
  have h1:=hi.out
  have h2:=hz.out
  have h3:=hby.out
  cases hq:P.info? e with
  |none=>rw[hq]at h1;cases h1
  |some i=>
   rw[hq]at h1 h2 h3
   simp only[a1g,a0h,a1v]at h1 h2 h3
   exact⟨i,rfl,h2,h1,h3⟩
 have hnb':=a0c hnb
 have hbytes:(i.bytes:Int)*(n:Int)<=281474976710656:=by
  rw[hi4]
  have:nb*n<=1048576*1000000:=a5u hnb' hl
  have h4:((nb*n:Nat):Int)=(nb:Int)*n:=a3y nb n
  omega
 have hr:=run_make (P:=P) w t e i zv hu.out hi1 hi2 .i64 .i64 (n:Int) (n:Int) (by omega) (a4w _) hbytes (by omega)
 rw[a0q,hi3,a4g,hzc]at hr
 have hsz:(madeCells #[zv] n).size=n:=size_madeCells _ _
 have hat:∀j,j<n->(madeCells #[zv] n)[j]?=some zv:=fun j hj=>by
  simp[madeCells,hj,Nat.mod_one]
 obtain⟨s1,s2⟩:=hR.alloc (b:=b) hf (List.replicate n (.val zv)) (madeCells #[zv] n) e (by rw[a2z,hsz];exact a0n _) fun j z hj=>by
  have hjn:j<n:=by
   rcases a0y j n with h|h
   ·exact h
   ·rw[a0v (by simpa using h)]at hj;cases hj
  rw[a3z,if_pos hjn]at hj
  injection hj with hj
  subst hj
  exact⟨zv,hat j hjn,Ab zv⟩
 unfold Oper.wp
 rw[show(execOp a.eval ⟨some d,.makeSlice t x x,ty,pos,af,none⟩).run P w=.ok (.value (.slice (some ⟨w.heap.size,0,none⟩) n n)) (w.alloc (.cells (madeCells #[zv] n) e)) by
  simp[execOp,hv,a0t,hr,Result.andThen]]
 exact hK _ _ (h E _ _ _ hE (s1.put (by rw[hE];exact a0c hN) (K1 (a0n _) (Dh (Bz w _)) (by rw[hsz];omega))))
theorem p1l{bo:BinOp}{a b c:Int}(hx:evT tm x=some (.val (.int .u64 a)))(hy:evT tm y=some (.val (.int .u64 b)))(hc:J7 bo a b=some c)(hN:LN d N)(h0:0<=c/\c<=18446744073709551615)(h:Reg m P N ops rest ((d,.val (.int .u64 c))::tm) H K):Reg m P N ops (⟨some d,.binOp bo t x y u,ty,pos,af,none⟩::rest) tm H K:=by
 have hw:IntKind.u64.wrap c=c:=by
  simp[IntKind.wrap,IntKind.signed,IntKind.bits]
  omega
 refine S.val (r:=.val (.int .u64 c)) ?_ hN h
 cases bo<;>simp only[J7,reduceCtorEq,a0h]at hc<;>subst hc<;>exact p3s rfl hx hy (by simp only[Qy];rw[hw])
theorem p0j{k k':IntKind}{n r:Int}{ds:TypeDesc}[hu:HasU P t ds][hv:HasU P u (.int k')](hx:evT tm x=some (.val (.int k n)))(hw:k'.wrap n=r)(hN:LN d N)(h:Reg m P N ops rest ((d,.val (.int k' r))::tm) H K):Reg m P N ops (⟨some d,.convert t u x,ty,pos,af,none⟩::rest) tm H K:=by
 refine S.val (OpV.mk fun L w ρ η hη hH=>?_) hN h
 have h1:=(hη x (by simp[Op.operands]) _ hx).val_eq
 refine⟨_,?_,Ab _⟩
 simp[execOp,h1,convert,run_underlying hu.out,run_underlying hv.out,Conv.intToInt,hw]
theorem Di(n:Int):IntKind.u32.wrap n=n%4294967296:=by simp[IntKind.wrap,IntKind.signed,IntKind.bits]
theorem C7(n:Int):IntKind.u64.wrap n=n%18446744073709551616:=by simp[IntKind.wrap,IntKind.signed,IntKind.bits]
theorem Dy(n:Int)(h: -9223372036854775808<=n/\n<=9223372036854775807):IntKind.i64.wrap n=n:=by
 simp[IntKind.wrap,IntKind.signed,IntKind.bits]
 omega
theorem p2b{a:Int}(hx:evT tm x=some (.val (.int .u64 a)))(hy:evT tm y=some (.val (.int .u64 32)))(hN:LN d N)(h:Reg m P N ops rest ((d,.val (.int .u64 (a/4294967296)))::tm) H K):Reg m P N ops (⟨some d,.binOp .shr t x y u,ty,pos,af,none⟩::rest) tm H K:=by
 refine S.val (OpV.mk fun L w ρ η hη hH=>?_) hN h
 have h1:=(hη x (by simp[Op.operands]) _ hx).val_eq
 have h2:=(hη y (by simp[Op.operands]) _ hy).val_eq
 refine⟨_,?_,Ab _⟩
 simp only[execOp,h1,h2,eqGuard_shr,binOp_shr,shift_shr .u64 .u64 a 32 (by omega) (by simp[IntKind.bits])]
 simp
def wsA(k:IntKind)(l:List Nat):List AV:=l.map fun(x:Nat)=>.val (.int k (x:Int))
def wsR(k:IntKind)(l:List Nat):List (List Lf):=l.map fun(x:Nat)=>[.val (.int k (x:Int))]
theorem A6t(k:IntKind)(l:List Nat):(wsA k l).length=l.length:=a0e _
theorem B7(k:IntKind)(l:List Nat):(wsR k l).length=l.length:=a0e _
theorem T3(k:IntKind)(l:List Nat):∀r∈wsR k l,r.length=1:=fun r hr=>by
 obtain⟨x,_,rfl⟩:=a1d.1 hr
 rfl
theorem Oc{k:IntKind}{l:List Nat}{i x:Nat}(h:l[i]?=some x):(wsR k l)[i]?=some [.val (.int k (x:Int))]:=by rw[wsR,a0d,h];rfl
theorem Ez{k:IntKind}{l:List Nat}{i x:Nat}(h:l[i]?=some x):(wsR k l)[((i:Nat):Int).toNat]?=some [.val (.int k (x:Int))]:=by rw[a0q];exact Oc h
theorem A3p(k:IntKind)(l:List Nat)(n:Nat):(wsR k l).take n=wsR k (l.take n):=by simp[wsR,a6u]
theorem A8q(k:IntKind)(a b:List Nat):wsA k (a++b)=wsA k a++wsA k b:=by simp[wsA]
theorem Aw(n:Nat)(k:IntKind)(l:List Nat):(wsA k l).all (AV.under n)=true:=by
 rw[a0l]
 intro x hx
 obtain⟨y,_,rfl⟩:=a1d.1 hx
 rfl
theorem Acr(b:Nat)(k:IntKind)(l:List Nat):(wsA k l).all (AV.clear b)=true:=by
 rw[a0l]
 intro x hx
 obtain⟨y,_,rfl⟩:=a1d.1 hx
 rfl
theorem G5(k:IntKind)(l:List Nat){n:Nat}(h:n=l.length):OwnRows (wsA k l) 0 n 1 (wsR k l):=by
 refine⟨by rw[B7,h],fun i row hi=>?_⟩
 rw[wsR,a0d]at hi
 cases hx:l[i]? with
 |none=>rw[hx]at hi;cases hi
 |some x=>
  rw[hx]at hi
  simp only[a1g,a0h]at hi
  subst hi
  refine⟨rfl,fun j y hj=>?_⟩
  cases j with
  |zero=>
   simp only[a2f,a0h]at hj
   subst hj
   rw[wsA,a0d,show 0+(i*1+0)=i by omega,hx];rfl
  |succ j=>simp at hj
theorem Py:∀(n:Nat)(x:AV)(cs:List AV),Bk n [x] cs=cs.set n x
 |0,x,[]=>rfl
 |0,x,c::cs=>by rw[Bk,G9];rfl
 |n+1,x,[]=>rfl
 |n+1,x,c::cs=>by rw[Bk,Py n];rfl
theorem p3d{b n nb:Nat}{k:IntKind}[hu:HasU P t (.slice e)][hi:HasS P e 1][hz:HasZ P e (.int k 0)][hby:HasB P e nb](hb':H.nextId=some b)(hx:evT tm x=some (.val (.int .i64 (n:Int))))(hl:n<=1000000)(hnb:Nat.ble nb 1048576=true)(hN:LN d N)
  (h:Reg none P N ops rest ((d,.own b 0 n 1)::tm) (H.put b (.live (wsA k (List.replicate n 0)))) K):Reg none P N ops (⟨some d,.makeSlice t x x,ty,pos,af,none⟩::rest) tm H K:=
 p3c hb' hx rfl hl hnb hN (by rw[show List.replicate n (AV.val (.int k 0))=wsA k (List.replicate n 0) by simp[wsA]];exact h)
theorem p1g{b len:Nat}{k:IntKind}{i:Int}(j:Nat)[hu:HasU P t (.slice e)][hi:HasS P e 1](hx:evT tm x=some (.own b 0 len 1))(hy:evT tm y=some (.val (.int k i)))(hb:(C0 m H b).isLive=true)(hN:LN d N)(hj:i=(j:Int))(h1:j<len)(h:Reg m P N ops rest ((d,.ptr b j)::tm) H K):Reg m P N ops (⟨some d,.indexAddr t x y,ty,pos,af,none⟩::rest) tm H K:=
 S.indexO hx hy hb hN (by omega) (by omega) h
theorem p4u{b j v:Nat}{k:IntKind}{l:List Nat}{ds:TypeDesc}[hu:HasU P t ds](hx:evT tm x=some (.ptr b j))(hb:C0 m H b=.live (wsA k l))(hd:ds.isRow=false)(hN:LN d N)(hv:l[j]?=some v)(h:Reg m P N ops rest ((d,.val (.int k (v:Int)))::tm) H K):Reg m P N ops (⟨some d,.load t x,ty,pos,af,none⟩::rest) tm H K:=
 S.val (OpV.loadP rfl hx hb (by rw[wsA,a0d,hv];rfl) hu.out hd) hN h
theorem p1h{b j r:Nat}{v:Int}{k:IntKind}{l:List Nat}[hi:HasS P t 1](hx:evT tm x=some (.ptr b j))(hy:evT tm y=some (.val (.int k v)))(hb:H.at b=.live (wsA k l))(hv:v=(r:Int))(hl:j<l.length)(h:Reg none P N ops rest tm (H.put b (.live (wsA k (l.set j r)))) K):Reg none P N ops (⟨none,.store t x y,ty,pos,af,none⟩::rest) tm H K:=by
 subst hv
 refine p2c (r:=.val (.int k (r:Int))) hx hy hb rfl rfl rfl (by rw[A6t];exact hl) ?_
 rw[show(AV.val (.int k (r:Int))).cells=[.val (.int k (r:Int))]from rfl,Py,show(wsA k l).set j (.val (.int k (r:Int)))=wsA k (l.set j r) by rw[wsA,wsA,b1x]]
 exact h
theorem p5l{a r:Int}(hx:evT tm x=some (.val (.int .u64 a)))(hw:IntKind.u64.wrap (-a)=r)(hN:LN d N)(h:Reg m P N ops rest ((d,.val (.int .u64 r))::tm) H K):Reg m P N ops (⟨some d,.unOp .neg t x,ty,pos,af,none⟩::rest) tm H K:=by
 refine S.val (OpV.mk fun L w ρ η hη hH=>?_) hN h
 have h1:=(hη x (by simp[Op.operands]) _ hx).val_eq
 exact⟨_,by simp[execOp,h1,Op.unary,Op.intArith,hw],Ab _⟩
theorem p0s{a b c:Bool}[hu:HasU P t .bool](hx:evT tm x=some (.val (.bool a)))(hy:evT tm y=some (.val (.bool b)))(hc:(a==b)=c)(hN:LN d N)(h:Reg m P N ops rest ((d,.val (.bool c))::tm) H K):Reg m P N ops (⟨some d,.binOp .eql t x y u,ty,pos,af,none⟩::rest) tm H K:=by
 subst hc
 refine S.val (OpV.mk fun L w ρ η hη hH=>?_) hN h
 have h1:=(hη x (by simp[Op.operands]) _ hx).val_eq
 have h2:=(hη y (by simp[Op.operands]) _ hy).val_eq
 have he:∀d,(Op.equalIn (d+1) t (.bool a) (.bool b)).run P w=.ok (a==b) w:=fun d=>by
  rw[Op.equalIn,a0t,run_underlying hu.out];rfl
 have he2:(Op.equal t (.bool a) (.bool b)).run P w=.ok (a==b) w:=he _
 exact⟨_,by simp[execOp,h1,h2,eqGuard,binOp,he2],Ab _⟩
theorem p0t{a b c:Bool}[hu:HasU P t .bool](hx:evT tm x=some (.val (.bool a)))(hy:evT tm y=some (.val (.bool b)))(hc:(a !=b)=c)(hN:LN d N)(h:Reg m P N ops rest ((d,.val (.bool c))::tm) H K):Reg m P N ops (⟨some d,.binOp .neq t x y u,ty,pos,af,none⟩::rest) tm H K:=
 S.val (OpV.boolNe rfl hx hy hu.out) hN (by rw[<-hc]at h;exact h)
end
/-! ### Where ways meet -/
structure Meets(tm':Tm)(H':AH)(st:St):Prop where
 tm:Cov st.tm H'.length tm'
 H:CovH H'.length st.H H'
theorem p1k{tm tm':Tm}{H H':AH}{Q:Exit->St->Prop}(h1:Cov tm H'.length tm')(h2:CovH H'.length H H'):Cv (Meets tm' H') Q .normal ⟨tm,H⟩:=⟨h1,h2⟩
theorem p1f{P:Program}{N:Nat}{c y:Code}{l:Array Oper}{dr:Bool}{Q:Exit->St->Prop}{tm:Tm}{H:AH}(id:Nat)(tm':Tm)(H':AH)(h:T P N (.seq (.region id l dr) c) ⟨tm,H⟩ (Cv (Meets tm' H') Q))(k:T P N y ⟨tm',H'⟩ Q):T P N (.seq (.seq (.region id l dr) c) y) ⟨tm,H⟩ Q:=
 T.cut (Meets tm' H') h fun _ m=>T.cov m.tm m.H k
structure HaltQ(p:Prop):Prop where
 out:p
theorem p5y{P:Program}{N:Nat}{c y:Code}{l:Array Oper}{dr:Bool}{Q:Exit->St->Prop}{tm:Tm}{H:AH}(id:Nat)(tm':Tm)(H':AH)(h:T P N (.seq (.region id l dr) c) ⟨tm,H⟩ (Cv (Meets tm' H') Q))(k:HaltQ (T P N y ⟨tm',H'⟩ Q)):T P N (.seq (.seq (.region id l dr) c) y) ⟨tm,H⟩ Q:=
 p1f id tm' H' h k.out
theorem RelSt.reH{E:Env}{tm:Tm}{H:AH}{a:Act}{w:World}{ρ:Pl}(h:RelSt E ⟨tm,H⟩ a w ρ){b:Nat}{cells cells':List AV}(hb:H.at b=.live cells)(hl:cells'.length<=cells.length)
  (hc:∀k o c e lo hi,ρ b=some (some (k,o))->w.heap[k]?=some (.cells c e (lo,hi))->(∀(j:Nat)(x:AV),cells[j]?=some x->∃v,c[o+j]?=some v/\RelV w E.L ρ x v)->∀(j:Nat)(x:AV),cells'[j]?=some x->∃v,c[o+j]?=some v/\RelV w E.L ρ x v):
  RelSt E ⟨tm,H.put b (.live cells')⟩ a w ρ:=by
 have hput:∀b',b'≠b->(H.put b (.live cells')).at b'=H.at b':=fun b' hb'=>by rw[p0e,if_neg hb']
 have hbe:(H.at b).isExt=false:=by rw[hb];rfl
 refine⟨h.size,h.defers,h.tm,⟨fun b' hb'=>?_,fun b' hb'=>?_,fun b' cs hb'=>?_,fun b' es hb'=>?_,h.H.dist,h.H.ext.put (fun k o u h1 h2=>⟨h2,h1⟩) hbe rfl (fun b' _=>rfl) (a0n _) (fun _ _ _ _ _ _ _ _ h=>h) fun _ _ _ _ _=>rfl⟩,h.fr,fun b' k o hk=>?_,h.lim⟩
 ·by_cases e:b'=b
  ·subst e;rw[p0e,if_pos rfl]at hb';cases hb'
  ·rw[hput b' e]at hb';exact h.H.free b' hb'
 ·by_cases e:b'=b
  ·subst e;rw[p0e,if_pos rfl]at hb';cases hb'
  ·rw[hput b' e]at hb';exact h.H.dead b' hb'
 ·by_cases e:b'=b
  ·subst e
   rw[p0e,if_pos rfl]at hb'
   injection hb' with hb'
   subst hb'
   obtain⟨k,o,c,el,lo,hi,h1,h2,h3,h4,h5,h6⟩:=h.H.live b' cells hb
   exact⟨k,o,c,el,lo,hi,h1,h2,h3,by omega,h5,hc k o c el lo hi h1 h2 h6⟩
  ·rw[hput b' e]at hb';exact h.H.live b' cs hb'
 ·by_cases e:b'=b
  ·subst e;rw[p0e,if_pos rfl]at hb';cases hb'
  ·rw[hput b' e]at hb';exact h.H.map b' es hb'
 ·by_cases e:b'=b
  ·subst e
   rcases h.mine b' k o hk with⟨h1,_⟩|h1
   ·exact .inl ⟨h1,by show((H.put b' (.live cells')).at b').isExt=false;rw[p0e,if_pos rfl];rfl⟩
   ·exact .inr h1
  ·rcases h.mine b' k o hk with⟨h1,h2⟩|h1
   ·exact .inl ⟨h1,by show((H.put b (.live cells')).at b').isExt=false;rw[hput b' e];exact h2⟩
   ·exact .inr h1
theorem RelSt.blur{E:Env}{tm:Tm}{H:AH}{a:Act}{w:World}{ρ:Pl}(h:RelSt E ⟨tm,H⟩ a w ρ){s q:Nat}(j:Nat){cells:List AV}(hs:H.at s=.live cells)(hq:H.at q=.dead)(h1:∀b off len n,cells[j]?=some (.own b off len n)->RelSt E ⟨tm,H.put s (.live (cells.set j (.ptr q 0)))⟩ a w ρ->True){b off len n:Nat}(hj:cells[j]?=some (.own b off len n)):RelSt E ⟨tm,H.put s (.live (cells.set j (.ptr q 0)))⟩ a w ρ:=by
 refine h.reH hs (by simp) fun k o c e lo hi hk hw hc i x hi=>?_
 by_cases e:j=i
 ·subst e
  obtain⟨v,g1,g2⟩:=hc j _ hj
  have hlt:j<cells.length:=(a0f.1 hj).1
  rw[a5w hlt]at hi
  injection hi with hi
  subst hi
  refine⟨v,g1,.ptr q 0 v (by rw[h.H.dead q hq];simp) ?_ fun k o hk=>by rw[h.H.dead q hq]at hk;cases hk⟩
  cases g2 with
  |own _ _ _ _ _ _ h1 _=>exact h1
 ·rw[a4q e]at hi
  exact hc i x hi
section
variable {P:Program}{N:Nat}{ops:Array Oper}{m:Option Nat}{K:Tm->AH->Prop}{tm tm':Tm}{H:AH}{rest:List Oper}
theorem Reg.blur(s j q:Nat){cells:List AV}{b off len n:Nat}(hs:H.at s=.live cells)(hq:H.at q=.dead)(hj:cells[j]?=some (.own b off len n))(h:Reg none P N ops rest tm (H.put s (.live (cells.set j (.ptr q 0)))) K):Reg none P N ops rest tm H K:=
 ⟨fun E a w ρ hE hR=>h.out E a w ρ hE (hR.blur j hs hq (fun _ _ _ _ _ _=>trivial) hj)⟩
theorem RelSt.freezeH{E:Env}{a:Act}{w:World}{ρ:Pl}(hR:RelSt E ⟨tm,H⟩ a w ρ){s j b off len n:Nat}{cs cells:List AV}{rows:List (List Lf)}(hs:H.at s=.live cs)(hj:cs[j]?=some (.own b off len n))(hb:H.at b=.live cells)(hne:s≠b)(hr:OwnRows cells off len n rows):RelSt E ⟨tm,(H.put b .dead).put s (.live (cs.set j (.sl rows)))⟩ a w (ρ.upd b none):=by
 obtain⟨k,o,c,e,lo,hi,g1,g2,g3,g4,g5,g6⟩:=hR.H.live b cells hb
 obtain⟨k',o',c',e',lo',hi',i1,i2,i3,i4,i5,i6⟩:=hR.H.live s cs hs
 obtain⟨v,hv1,hv⟩:=i6 j _ hj
 have hk:=hR.kill (b:=b) (by show(H.at b).isExt=false;rw[hb];rfl)
 have hF:∀i,Fb E.L (ρ.upd b none) i->Fb E.L ρ i:=fun i hi=>by
  rcases hi with hi|⟨b',o',hi⟩
  ·exact .inl hi
  ·unfold Pl.upd at hi
   by_cases e':b'=b
   ·rw[if_pos e']at hi;cases hi
   ·rw[if_neg e']at hi;exact .inr ⟨b',o',hi⟩
 have hnk:¬Fb E.L (ρ.upd b none) k:=by
  rintro(hf|⟨b',o',hf⟩)
  ·exact g5 hf
  ·unfold Pl.upd at hf
   by_cases e':b'=b
   ·rw[if_pos e']at hf;cases hf
   ·rw[if_neg e']at hf;exact e' (hR.H.dist _ _ _ _ _ hf g1)
 have hrel:RelV w E.L (ρ.upd b none) (.sl rows) v:=by
  obtain⟨cap,e2,n2,hveq,hc,_⟩:=hv.own_out k o g1
  rw[hveq]
  obtain⟨rfl,hr⟩:=hr
  refine .lf _ _ (.sl rows ⟨k,o+off,none⟩ cap (fun i j=>c.getD (o+(off+(i*n+j))) undef) (.inl rfl) hc (fun i row j x h1 h2=>?_) fun i row j x h1 h2=>?_)
  ·obtain⟨hl,hx⟩:=hr i row h1
   obtain⟨v,g7,g8⟩:=g6 _ _ (hx j x h2)
   refine⟨hnk,?_⟩
   simp only[hl]
   rw[a1t,Bi g2 g7]
   simp[a0r,g7]
  ·obtain⟨hl,hx⟩:=hr i row h1
   obtain⟨v,g7,g8⟩:=g6 _ _ (hx j x h2)
   simp only[a0r,g7,a1a]
   exact g8.lf_out.less hF
 have hs':(H.put b .dead).at s=.live cs:=by rw[p0e,if_neg hne];exact hs
 refine RelSt.reH (tm:=tm) (H:=H.put b .dead) hk hs' (by simp) fun k2 o2 c2 e2 lo2 hi2 q1 q2 q3 i x hi=>?_
 have:(ρ.upd b none) s=ρ s:=by unfold Pl.upd;rw[if_neg hne]
 rw[this,i1]at q1
 injection q1 with q1
 injection q1 with q1
 injection q1 with q1a q1b
 subst q1a q1b
 rw[i2]at q2
 injection q2 with q2
 injection q2 with q2 _ _
 subst q2
 by_cases e:j=i
 ·subst e
  have hlt:j<cs.length:=(a0f.1 hj).1
  rw[a5w hlt]at hi
  injection hi with hi
  subst hi
  exact⟨v,hv1,hrel⟩
 ·rw[a4q e]at hi
  exact q3 i x hi
theorem T.freezeH{c:Code}{Q:Exit->St->Prop}(s j:Nat){b off len n:Nat}{cs cells:List AV}{rows:List (List Lf)}(hs:H.at s=.live cs)(hj:cs[j]?=some (.own b off len n))(hb:H.at b=.live cells)(hne:Nat.beq s b=false)(hr:OwnRows cells off len n rows)(h:T P N c ⟨tm,(H.put b .dead).put s (.live (cs.set j (.sl rows)))⟩ Q):T P N c ⟨tm,H⟩ Q:=
 ⟨fun E a w ρ hE hR=>h.out E a w _ hE (hR.freezeH hs hj hb (fun e=>by subst e;rw[a6p]at hne;cases hne) hr)⟩
end
section
variable {P:Program}{N:Nat}{ops:Array Oper}{m:Option Nat}{K:Tm->AH->Prop}{tm tm':Tm}{H:AH}{rest:List Oper}{ty:TypeId}{pos:String}{af:Array Edge}{d:Nat}{t e u:TypeId}{x y:Operand}
theorem Afj(k:IntKind)(l:List Nat)(r:Nat):wsA k l++([[Lf.val (.int k (r:Int))]]:List (List Lf)).flatten.map AV.lf=wsA k (l++[r]):=by rw[A8q];rfl
theorem p2o{len b r nb:Nat}{v:Int}{k:IntKind}{l:List Nat}{zv:Value}[hu:HasU P t (.slice e)][hi:HasS P e 1][hz:HasZ P e zv][hby:HasB P e nb]
  (hx:evT tm x=some (.own b 0 len 1)) (hb:H.at b=.live (wsA k l)) (hy:evT tm y=some (.sl [[.val (.int k v)]])) (htm:tm.clearO b=some tm') (hH:AH.clear b 0 H=true) (hzs:Nat.beq zv.cells.size 1=true) (hN:LN d N)
  (hl:l.length=len) (hv:v=(r:Int)) (hnb:nb<=64) (hle:len<=1000000)
  (h:Reg none P N ops rest ((d,.own b 0 (len+1) 1)::tm') (H.put b (.live (wsA k (l++[r])))) K):
  Reg none P N ops (⟨some d,.call ⟨.builtin .append, #[x,y], #[t,t]⟩,ty,pos,af,none⟩::rest) tm H K:=by
 subst hv
 refine p0h hx hb hy htm hH rfl hzs hN (by rw[A6t,hl,a4g]) (fun row hr=>by obtain rfl:row=_:=a2s.1 hr;rfl) rfl (Acr b k l) ?_ ?_ ?_
 ·show(len+1)*nb<=_
  have:(len+1)*nb<=1000001*64:=a5u (by omega) hnb
  omega
 ·show len+1<=_
  omega
 ·rw[Afj];exact h
theorem p2h(b:Nat){r nb:Nat}{v:Int}{k:IntKind}{zv:Value}[hu:HasU P t (.slice e)][hi:HasS P e 1][hz:HasZ P e zv][hby:HasB P e nb]
  (hx:evT tm x=some (.val (.slice none 0 0))) (hy:evT tm y=some (.sl [[.val (.int k v)]])) (hb:(H.at b).idle=true) (htm:tm.clearO b=some tm') (hH:AH.clear b 0 H=true) (hzs:Nat.beq zv.cells.size 1=true) (hN:LN d N)
  (hv:v=(r:Int)) (hnb:nb<=64)
  (h:Reg none P N ops rest ((d,.own b 0 (0+1) 1)::tm') (H.put b (.live (wsA k ([]++[r])))) K):
  Reg none P N ops (⟨some d,.call ⟨.builtin .append, #[x,y], #[t,t]⟩,ty,pos,af,none⟩::rest) tm H K:=by
 subst hv
 refine p0q b hx hy hb htm hH rfl hzs hN (fun row hr=>by obtain rfl:row=_:=a2s.1 hr;rfl) rfl ?_ ?_ h
 ·show 1*nb<=_
  omega
 ·show 1<=_
  omega
theorem p3o{a b:Int}(hx:evT tm x=some (.val (.int .u64 a)))(hy:evT tm y=some (.val (.int .u64 b)))(hN:LN d N)(h0:0<=a/\0<b)(h:Reg m P N ops rest ((d,.val (.int .u64 (a%b)))::tm) H K):Reg m P N ops (⟨some d,.binOp .rem t x y u,ty,pos,af,none⟩::rest) tm H K:=
 S.val (OpV.mk fun L w ρ η hη _=>by
  have h1:=(hη x (by simp[Op.operands]) _ hx).val_eq
  have h2:=(hη y (by simp[Op.operands]) _ hy).val_eq
  have hb:b≠0:=by omega
  exact⟨_,by simp[execOp,h1,h2,eqGuard,binOp,Op.intDiv,hb,a7w h0.1],Ab _⟩) hN h
theorem p1n{a b:Int}(hx:evT tm x=some (.val (.int .u64 a)))(hy:evT tm y=some (.val (.int .u64 b)))(hN:LN d N)(h0:0<=a/\0<b/\a<=18446744073709551615)(h:Reg m P N ops rest ((d,.val (.int .u64 (a/b)))::tm) H K):Reg m P N ops (⟨some d,.binOp .quo t x y u,ty,pos,af,none⟩::rest) tm H K:=
 S.val (OpV.mk fun L w ρ η hη _=>by
  have h1:=(hη x (by simp[Op.operands]) _ hx).val_eq
  have h2:=(hη y (by simp[Op.operands]) _ hy).val_eq
  have hb:b≠0:=by omega
  have hq:0<=a/b/\a/b<=a:=⟨a1y h0.1 (by omega),a2q b h0.1⟩
  have hw:IntKind.u64.wrap (a/b)=a/b:=by
   simp[IntKind.wrap,IntKind.signed,IntKind.bits]
   omega
  exact⟨_,by simp[execOp,h1,h2,eqGuard,binOp,Op.intDiv,hb,a4d h0.1,hw],Ab _⟩) hN h
end
def slT(b:Nat):Nat->AV
 |0=>.val (.slice none 0 0)
 |n+1=>.own b 0 (n+1) 1
def slB(k:IntKind)(l:List Nat):Nat->HB
 |0=>.dead
 |_+1=>.live (wsA k l)
theorem p0p{P:Program}{N:Nat}{c:Code}{Q:Exit->St->Prop}{tm:Tm}{H:AH}(q:Nat)(ht:tm.get q=some (.val (.slice none 0 0)))(h:T P N c ⟨(q,.sl [])::tm,H⟩ Q):T P N c ⟨tm,H⟩ Q:=
 ⟨fun E a w ρ hE hR=>h.out E a w ρ hE ⟨hR.size,hR.defers,fun t x hx=>by
  rw[p0w]at hx
  by_cases e:q=t
  ·rw[if_pos e]at hx
   injection hx with hx
   subst hx e
   obtain⟨h1,h2⟩:=hR.tm q _ ht
   refine⟨h1,?_⟩
   have:=h2.val_eq
   rw[this]
   exact .lf _ _ .slnil
  ·rw[if_neg e]at hx
   exact hR.tm t x hx,hR.H,hR.fr,hR.mine,hR.lim⟩⟩
theorem p4z{P:Program}{N:Nat}{c:Code}{Q:Exit->St->Prop}{tm:Tm}{H:AH}(q b:Nat){n:Nat}{k:IntKind}{l:List Nat}(hl:l.length=n)(ht:tm.get q=some (slT b n))(hb:H.at b=slB k l n)(h:T P N c ⟨(q,.sl (wsR k l))::tm,H.put b .dead⟩ Q):T P N c ⟨tm,H⟩ Q:=by
 cases n with
 |zero=>
  obtain rfl:=a0z hl
  exact p0p q ht (T.kill b h (by rw[hb];rfl))
 |succ n=>exact T.freeze q ht hb (G5 k l hl.symm) h
theorem p5q{P:Program}{N:Nat}{c:Code}{Q:Exit->St->Prop}{tm:Tm}{H:AH}(s j:Nat){cs:List AV}(hs:H.at s=.live cs)(hj:cs[j]?=some (.val (.slice none 0 0)))(h:T P N c ⟨tm,H.put s (.live (cs.set j (.sl [])))⟩ Q):T P N c ⟨tm,H⟩ Q:=
 ⟨fun E a w ρ hE hR=>h.out E a w ρ hE (hR.reH hs (by simp) fun k o c e lo hi hk hw hc i x hi=>by
  by_cases e':j=i
  ·subst e'
   obtain⟨v,g1,g2⟩:=hc j _ hj
   have hlt:j<cs.length:=(a0f.1 hj).1
   rw[a5w hlt]at hi
   injection hi with hi
   subst hi
   exact⟨v,g1,by rw[g2.val_eq];exact .lf _ _ .slnil⟩
  ·rw[a4q e']at hi
   exact hc i x hi)⟩
theorem Zb1{A0:Prop}(a0:A0){G R:Prop}(r:R)(h:A0→Rest R→G:=by intro a0 r;apply p0n;(iterate 6 exact rfl);exact a0;exact rfl;exact r.out):G:=h a0 ⟨r⟩
theorem Zb3{A0:Prop}(a0:A0){G R:Prop}(r:R)(h:A0→Rest R→G:=by intro a0 r;apply p0r;(iterate 5 exact rfl);exact a0;exact rfl;exact r.out):G:=h a0 ⟨r⟩
theorem Zb6{A0:Prop}(a0:A0){G R:Prop}(r:R)(h:A0→Rest R→G:=by intro a0 r;apply p0j;exact rfl;exact a0;exact rfl;exact r.out):G:=h a0 ⟨r⟩
theorem Zb7{G R:Prop}(r:R)(h:Rest R→G:=by intro r;refine p0p 6 rfl ?_;apply T.ret;change Ao _ _ _ _ _;exact r.out):G:=h ⟨r⟩
theorem Zb9{G R:Prop}(r:R)(h:Rest R→G:=by intro r;apply p1e;(iterate 5 exact rfl);exact r.out):G:=h ⟨r⟩
theorem Zba{G R:Prop}(r:R)(h:Rest R→G:=by intro r;apply p1a;(iterate 5 exact rfl);exact r.out):G:=h ⟨r⟩
theorem Zbf{A0:Prop}(a0:A0){G R:Prop}(r:R)(h:A0→Rest R→G:=by intro a0 r;apply p0s;exact rfl;exact rfl;exact a0;exact rfl;exact r.out):G:=h a0 ⟨r⟩
theorem Zbg{A0:Prop}(a0:A0){G R:Prop}(r:R)(h:A0→Rest R→G:=by intro a0 r;apply p0t;exact rfl;exact rfl;exact a0;exact rfl;exact r.out):G:=h a0 ⟨r⟩
theorem Zbl{G R:Prop}(r:R)(h:Rest R→G:=by intro r;apply p0z;(iterate 3 exact rfl);exact r.out):G:=h ⟨r⟩
theorem Zbm{G R:Prop}(r:R)(h:Rest R→G:=by intro r;apply p0o;(iterate 3 exact rfl);exact r.out):G:=h ⟨r⟩
theorem Zbn{G R:Prop}(r:R)(h:Rest R→G:=by intro r;refine p0p 8 rfl ?_;apply T.ret;change Ao _ _ _ _ _;exact r.out):G:=h ⟨r⟩
theorem Zbo{G R:Prop}(r:R)(h:Rest R→G:=by intro r;apply p1n;(iterate 3 exact rfl);omega;exact r.out):G:=h ⟨r⟩
theorem Zbv{G R:Prop}(r:R)(h:Rest R→G:=by intro r;apply p1h;(iterate 4 exact rfl);omega;exact r.out):G:=h ⟨r⟩
theorem Zd0{G R:Prop}(r:R)(h:Rest R→G:=by intro r;apply p1l;(iterate 4 exact rfl);omega;exact r.out):G:=h ⟨r⟩
theorem Zd3{G R:Prop}(r:R)(h:Rest R→G:=by intro r;apply T.ret;change G1 _ _ _ _ _ _ _ _;exact r.out):G:=h ⟨r⟩
theorem Zdh{G R:Prop}(r:R)(h:Rest R→G:=by intro r;apply p2b;(iterate 3 exact rfl);exact r.out):G:=h ⟨r⟩
theorem Zdj{G R:Prop}(r:R)(h:Rest R→G:=by intro r;apply p0s;(iterate 4 exact rfl);exact r.out):G:=h ⟨r⟩
theorem Zdk{G R:Prop}(r:R)(h:Rest R→G:=by intro r;apply p0t;(iterate 4 exact rfl);exact r.out):G:=h ⟨r⟩
theorem Zdr{A0:Prop}(a0:A0){A1:Prop}(a1:A1){G R:Prop}(r:R)(h:A0→A1→Rest R→G:=by intro a0 a1 r;apply p2o;(iterate 7 exact rfl);exact a0;exact a1;decide;omega;exact r.out):G:=h a0 a1 ⟨r⟩
theorem Zdv{G R:Prop}(r:R)(h:Rest R→G:=by intro r;apply p0j;exact rfl;exact Dy _ (by omega);exact rfl;exact r.out):G:=h ⟨r⟩
theorem Zdw{A0:Prop}(a0:A0){G R:Prop}(r:R)(h:A0→Rest R→G:=by intro a0 r;apply p2h 0;(iterate 7 exact rfl);exact a0;decide;exact r.out):G:=h a0 ⟨r⟩
theorem Zdx{G R:Prop}(r:R)(h:Rest R→G:=by intro r;apply p3o;(iterate 3 exact rfl);omega;exact r.out):G:=h ⟨r⟩
theorem Zdz{G R:Prop}(r:R)(h:Rest R→G:=by intro r;apply p1o;(iterate 3 exact rfl);omega;exact T3 _ _;exact r.out):G:=h ⟨r⟩
end Go.Proofs.YtcaicpnepfjcmaaGreat
