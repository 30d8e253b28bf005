/- Lemmas of the proof. -/
import Derived.Test.YtcaicpnepfjcmaaGreatMh
set_option linter.all false
set_option maxHeartbeats 64000000
namespace Go.Proofs.YtcaicpnepfjcmaaGreat
open Go Go.RowKit
def a1f:= @List.map_append
def a1x:= @Classical.byContradiction
def a2t:= @List.not_mem_nil
def a4i:= @List.take_append_drop
def a5j:= @List.pairwise_append
def a6b:= @List.length_singleton
def a9g:= @List.map_singleton
def b2d:= @Tryz.func138
def b2k:= @List.reverse_reverse
theorem CW{tm tm':Tm}{n:Nat}(h:Cov tm n tm':=by(repeat' (first|exact Cov.nil|(apply Cov.cons;exact rfl;exact rfl)));first|done|fail):Cov tm n tm':=h
theorem CG{H H':AH}{n:Nat}(h:CovH n H H':=by(repeat' (first|exact CovH.nil|apply CovH.dead|(apply CovH.live;exact rfl)|apply CovH.map));first|done|fail):CovH n H H':=h
/-! ### Names -/
def Ec(s:ByteArray):Bool:=decide (¬s=⟨#[]⟩)&&decide ((s.size:Int)<=20)&&(match s[0]? with|some c=>decide (N5 c.toNat)|none=>false)&&decide ((Fw s:Int)=s.size)
theorem Ou{s:ByteArray}(h:¬s=⟨#[]⟩):0<s.size:=by
 rcases a3e s.size with e|e
 ·exact absurd (by cases s with|mk a=>exact congrArg _ (Array.eq_empty_of_size_eq_zero e)) h
 ·exact e
theorem F1(s:ByteArray):Fz 138 [.s s] (.b (decide (Ec s=true))):=by
 by_cases h0:s=⟨#[]⟩
 ·have h0':¬¬s=(⟨#[]⟩:ByteArray):=fun h=>h h0
  refine Fo b2d ?_
  repeat' first|refine W ?_|refine V ?_|refine W2 ?_ ?_<;>intro hc
  all_goals exact Dd rfl rfl (by simp_all[Ec])
 ·obtain⟨c,hc,_⟩:=Rz (Ou h0)
  have hb:s[((0:Int)).toNat]?=some c:=hc
  by_cases h1:(s.size:Int)<=20
  ·have hw:=Ad4 s (by omega)
   refine Fo b2d ?_
   repeat' first|refine W ?_|refine Zc (Vh _) ?_|refine Zc hw ?_|(apply S.byteAt;(iterate 3 exact rfl);omega;exact hb)|refine V ?_|refine W2 ?_ ?_<;>intro hc
   all_goals exact Dd rfl rfl (by simp_all[Ec];try omega)
  ·skip
   refine Fo b2d ?_
   repeat' first|refine W ?_|refine V ?_|refine W2 ?_ ?_<;>intro hc
   all_goals exact Dd rfl rfl (by simp_all[Ec];try omega)
theorem A3u(s:ByteArray):Fz 223 [.s s] (.b (decide (Ec s=true))):=by
 refine Fo Tryz.func223 ?_
 repeat' first|refine W ?_|refine Zc (F1 _) ?_|refine V ?_|refine W2 ?_ ?_<;>intro hc
 all_goals exact Dd rfl rfl (by rfl)
theorem A3w(n:Int):Fz 224 [.i n] (.b (decide (0<=n/\n<=1048576))):=by
 refine Fo Tryz.func224 ?_
 repeat' first|refine W ?_|refine V ?_|refine W2 ?_ ?_<;>intro hc
 all_goals exact Dd rfl rfl (by simp[*])
theorem Gi(n lo hi:Int):Fz 172 [.i n,.i lo,.i hi] (.b (decide (lo<=n/\n<=hi))):=by
 refine Fo Tryz.func172 ?_
 repeat' first|refine W ?_|refine V ?_|refine W2 ?_ ?_<;>intro hc
 all_goals exact Dd rfl rfl (by simp[*])

/-! ### Data -/
structure ItemR where
 name:ByteArray
 at_:Int
 width:Int
 weight:Int
 hang:Int
 front:Int
 back:Int
def ItemR.row(x:ItemR):List Lf:=[.s x.name,.i x.at_,.i x.width,.i x.weight,.i x.hang,.i x.front,.i x.back]
structure BrickR where
 name:ByteArray
 weight:Int
 count:Int
def BrickR.row(x:BrickR):List Lf:=[.s x.name,.i x.weight,.i x.count]
structure SetR where
 name:ByteArray
 depth:Int
 low:Int
 high:Int
 length:Int
 lines:List Int
 pipe:Int
 arbor:Int
 purchase:Int
 most:Int
 brake:Int
 items:List ItemR
 bricks:List BrickR
def A1(n:Int):List Lf:=[.i n]
def SetR.row(s:SetR):List Lf:=[.s s.name,.i s.depth,.i s.low,.i s.high,.i s.length,.sl (s.lines.map A1),.i s.pipe,.i s.arbor,.i s.purchase,.i s.most,.i s.brake,.sl (s.items.map ItemR.row),.sl (s.bricks.map BrickR.row)]
structure RoofR where
 name:ByteArray
 from_:Int
 to:Int
 most:Int
def RoofR.row(x:RoofR):List Lf:=[.s x.name,.i x.from_,.i x.to,.i x.most]
structure HouseR where
 name:ByteArray
 height:Int
 sets:List SetR
 roofs:List RoofR
def HouseR.row(h:HouseR):List Lf:=[.s h.name,.i h.height,.sl (h.sets.map SetR.row),.sl (h.roofs.map RoofR.row)]
abbrev A0(l:List Lf):AV:=.agg (l.map .lf)

/-! ### Items -/
def J6(x:ItemR):Prop:=Ec x.name=true/\(0<=x.weight/\x.weight<=1048576)/\(0<=x.hang/\x.hang<=1048576)/\(0<=x.front/\x.front<=1048576)/\(0<=x.back/\x.back<=1048576)
instance (x:ItemR):Decidable (J6 x):=by unfold J6;exact inferInstance
def Fl(x:ItemR)(length:Int):Prop:=0<=x.at_/\(1<=x.width/\x.width<=1048576)/\x.at_<=length-x.width
instance (x:ItemR)(l:Int):Decidable (Fl x l):=by unfold Fl;exact inferInstance
def E2(x y:ItemR):Prop:=x.at_+x.width<=y.at_\/y.at_+y.width<=x.at_
instance (x y:ItemR):Decidable (E2 x y):=by unfold E2;exact inferInstance
theorem A8x(x:ItemR):Fz 236 [A0 x.row] (.b (decide (J6 x))):=by
 refine Fo Tryz.func236 ?_
 repeat' first|refine W ?_|refine Zc (F1 _) ?_|refine Zc (Gi _ _ _) ?_|refine V ?_|refine W2 ?_ ?_<;>intro hc
 all_goals exact Dd rfl rfl (by simp only[J6];simp[*])
theorem A6y(x:ItemR)(l:Int)(hl:0<=l/\l<=1048576):Fz 237 [A0 x.row,.i l] (.b (decide (Fl x l))):=by
 refine Fo Tryz.func237 ?_
 repeat' first|refine W ?_|refine Zc (Gi _ _ _) ?_|refine Za ?_|refine V ?_|refine W2 ?_ ?_<;>intro hc
 all_goals exact Dd rfl rfl (by simp only[Fl];simp[*])
theorem A8y(x y:ItemR)(hx:0<=x.at_/\x.at_<=1048576/\0<=x.width/\x.width<=1048576)(hy:0<=y.at_/\y.at_<=1048576/\0<=y.width/\y.width<=1048576):Fz 240 [A0 x.row,A0 y.row] (.b (decide (E2 x y))):=by
 refine Fo Tryz.func240 ?_
 repeat' first|refine W ?_|refine Za ?_|refine V ?_|refine W2 ?_ ?_<;>intro hc
 all_goals exact Dd rfl rfl (by simp only[E2];simp[*])
theorem A6z(x:ItemR):Fz 235 [A0 x.row] (.s x.name):=by
 refine Fo Tryz.func235 ?_
 repeat' first|refine W ?_|refine V ?_|refine W2 ?_ ?_<;>intro hc
 all_goals exact Dd rfl rfl (by rfl)
theorem A3q(x:BrickR):Fz 242 [A0 x.row] (.s x.name):=by
 refine Fo Tryz.func242 ?_
 repeat' first|refine W ?_|refine V ?_|refine W2 ?_ ?_<;>intro hc
 all_goals exact Dd rfl rfl (by rfl)
theorem A70(x y:ItemR)(hx:0<=x.at_/\x.at_<=1048576/\0<=x.width/\x.width<=1048576)(hy:0<=y.at_/\y.at_<=1048576/\0<=y.width/\y.width<=1048576):Fz 239 [A0 y.row,.rop x.row] (.b (decide (¬E2 x y))):=by
 refine Fo Tryz.func239 ?_
 repeat' first|refine W ?_|refine Zc (A8y x y hx hy) ?_|refine V ?_|refine W2 ?_ ?_<;>intro hc
 all_goals exact Dd rfl rfl (by rfl)
theorem A8:Tryz.prog.follows .mixedOrders=true:=by kernel_rfl

/-! ### Names that occur twice -/
def Ej{α:Type}(nm:α->ByteArray)(l:List α):List (ByteArray×Value):=l.foldl (fun es x=>H5 es (nm x) (.agg #[])) []
theorem Aav(es:List (ByteArray×Value))(s:ByteArray)(v:Value):(∀k,k∈(H5 es s v).map (·.1)↔k∈es.map (·.1)\/k=s)/\(s∈es.map (·.1)->(H5 es s v).length=es.length)/\(s∉es.map (·.1)->(H5 es s v).length=es.length+1):=by
 induction es with
 |nil=>simp[H5]
 |cons p es ih=>
  obtain⟨k,u⟩:=p
  obtain⟨h1,h2,h3⟩:=ih
  by_cases e:k=s
  ·subst e
   simp only[H5,if_true,a2g,a1q,a0j]
   exact⟨fun j=>⟨fun h=>.inl h,fun h=>h.elim id .inl⟩,fun _=>trivial,fun h=>absurd (.inl trivial) h⟩
  ·simp only[H5,if_neg e,a2g,a1q,a0j]
   refine⟨fun j=>?_,fun h=>?_,fun h=>?_⟩
   ·rw[h1 j]
    exact⟨fun h=>h.elim (fun h=>.inl (.inl h)) fun h=>h.elim (fun h=>.inl (.inr h)) .inr,fun h=>h.elim (fun h=>h.elim .inl fun h=>.inr (.inl h)) fun h=>.inr (.inr h)⟩
   ·rw[h2 (h.resolve_left fun h=>e h.symm)]
   ·rw[h3 fun hm=>h (.inr hm)]
theorem Qp{α:Type}(nm:α->ByteArray)(l:List α)(x:α):Ej nm (l++[x])=H5 (Ej nm l) (nm x) (.agg #[]):=by simp[Ej]
theorem W6{β:Type}(l:List β)(x:β):(l++[x]).Nodup↔l.Nodup/\x∉l:=by
 unfold List.Nodup
 rw[a5j]
 constructor
 ·rintro⟨h1,_,h2⟩
  exact⟨h1,fun hx=>h2 x hx x (by simp) rfl⟩
 ·rintro⟨h1,h2⟩
  refine⟨h1,by simp,fun a ha b hb=>?_⟩
  obtain rfl:b=x:=by simpa using hb
  exact fun e=>h2 (e▸ha)
theorem A9o{α:Type}(nm:α->ByteArray)(l:List α):(∀k,k∈(Ej nm l).map (·.1)↔k∈l.map nm)/\(Ej nm l).length<=l.length/\((Ej nm l).length=l.length↔(l.map nm).Nodup):=by
 have key:∀(m:List α),(∀k,k∈(Ej nm m.reverse).map (·.1)↔k∈m.reverse.map nm)/\(Ej nm m.reverse).length<=m.reverse.length/\((Ej nm m.reverse).length=m.reverse.length↔(m.reverse.map nm).Nodup):=fun m=>by
  induction m with
  |nil=>simp[Ej]
  |cons x m ih=>
   obtain⟨h1,h2,h3⟩:=ih
   obtain⟨g1,g2,g3⟩:=Aav (Ej nm m.reverse) (nm x) (.agg #[])
   rw[List.reverse_cons,Qp]
   refine⟨fun k=>by rw[g1 k,h1 k];simp,?_,?_⟩
   ·rw[a0s];simp only[a6b]
    by_cases hm:nm x∈(Ej nm m.reverse).map (·.1)
    ·rw[g2 hm];omega
    ·rw[g3 hm];omega
   ·rw[a1f,a9g,W6,a0s,<-h3]
    simp only[a6b]
    by_cases hm:nm x∈(Ej nm m.reverse).map (·.1)
    ·rw[g2 hm]
     exact⟨fun h=>by omega,fun⟨_,h⟩=>absurd ((h1 _).1 hm) h⟩
    ·rw[g3 hm]
     exact⟨fun h=>⟨by omega,fun h=>hm ((h1 _).2 h)⟩,fun⟨h,_⟩=>by omega⟩
 have:=key l.reverse
 rwa[b2k]at this
theorem A4y{α:Type}(nm:α->ByteArray)(l:List α):decide (((Ej nm l).length:Int)<l.length)=decide (¬(l.map nm).Nodup):=by
 obtain⟨_,h2,h3⟩:=A9o nm l
 by_cases h:(l.map nm).Nodup
 ·have e:=h3.2 h
  rw[decide_eq_false (by omega),decide_eq_false (fun hn=>hn h)]
 ·have e:(Ej nm l).length≠l.length:=fun e=>h (h3.1 e)
  rw[decide_eq_true (by omega),decide_eq_true h]
theorem Acl{α:Type}(l:List α)(R:α->List Lf)(nm:α->ByteArray)(g:FuncId)(caps:List AV)(hR:∀x,(R x).length=7)(h1c:∀x,((R x).map AV.lf).all AV.one=true)(hl:l.length<=9223372036854775807)(hcaps:caps.all p1q=true)(hg:∀x∈l,Fn0 Tryz.prog g (.agg ((R x).map .lf)::caps) (.s (nm x))):
  Fz 234 [.sl (l.map R),.fn (.func g) [] caps] (.b (decide (¬(l.map nm).Nodup))):=by
 have hle:=lmA l R
 refine Fo Tryz.func234 ?_
 repeat' first|refine W ?_|(apply S.makeMap;exact rfl;exact rfl)|refine V ?_|refine W2 ?_ ?_<;>intro hc
 refine p0c (fun k=>k<=l.length) (fun k=>l.length-k) (fun k=>[(11,.i k),(10,.i (l.map R).length),(0,.sl (l.map R)),(9,.sl (l.map R)),(5,.mp 0),(1,.fn (.func g) [] caps)]) (fun k=>[.map (Ux (Ej nm (l.take k)))]) 0 (a0k _) (.cons rfl rfl (.cons rfl rfl (.cons rfl rfl (.cons rfl rfl (.cons rfl rfl (.cons rfl (Bo hcaps) .nil)))))) (.map .nil) ?_
 intro k hk
 by_cases hlt:k<l.length
 ·have h1:(k:Int)<((l.map R).length:Nat):=by omega
  obtain⟨x,hx⟩:∃x,l[k]?=some x:=⟨l[k],a0b hlt⟩
  have hb:(l.map R)[((k:Nat):Int).toNat]?=some (R x):=by rw[a0q,a0d,hx];rfl
  have hx2:=hg x (a0a hx)
  have hsn:Ej nm (l.take (k+1))=H5 (Ej nm (l.take k)) (nm x) (.agg #[]):=by rw[a0u,hx];exact Qp nm _ x
  obtain⟨row,hrow⟩:∃row,R x=row:=⟨_,rfl⟩
  have hlen:=hR x
  have hone:=h1c x
  rw[hrow]at hb hx2 hlen hone
  match row,hlen,hone with
  |[a1,a2,a3,a4,a5,a6,a7],_,hone=>
   repeat' first|refine W ?_|refine Zi hb ?_|refine Zb5 ?_|refine Zbx hx2 (Gx (row:=[a1,a2,a3,a4,a5,a6,a7]) hcaps) ?_|(apply S.store;(iterate 4 exact rfl);exact hone;exact rfl;exact rfl)|(apply S.mapUpdate;(iterate 5 exact rfl))|refine Za ?_|refine V ?_|refine W2 ?_ ?_<;>intro hc
   exact Next.go (k+1) (by omega) (by omega) (.cons rfl rfl (.cons rfl rfl (.cons rfl rfl (.cons rfl rfl (.cons rfl rfl (.cons rfl (Bo hcaps) .nil)))))) (by show CovH _ _ [.map (Ux (Ej nm (l.take (k+1))))];rw[hsn];exact .map .nil)
 ·have h1:¬(k:Int)<((l.map R).length:Nat):=by omega
  have hk2:l.take k=l:=a0g (by omega)
  repeat' first|refine W ?_|(apply p4k;(iterate 3 exact rfl))|refine V ?_|refine W2 ?_ ?_<;>intro hc
  exact Dd rfl rfl (by rw[hk2,hle,A38];exact congrArg Value.bool (A4y nm l))
theorem A8l{α:Type}(l:List α)(R:α->List Lf)(nm:α->ByteArray)(g:FuncId)(caps:List AV)(hR:∀x,(R x).length=3)(h1c:∀x,((R x).map AV.lf).all AV.one=true)(hl:l.length<=9223372036854775807)(hcaps:caps.all p1q=true)(hg:∀x∈l,Fn0 Tryz.prog g (.agg ((R x).map .lf)::caps) (.s (nm x))):
  Fz 241 [.sl (l.map R),.fn (.func g) [] caps] (.b (decide (¬(l.map nm).Nodup))):=by
 have hle:=lmA l R
 refine Fo Tryz.func241 ?_
 repeat' first|refine W ?_|(apply S.makeMap;exact rfl;exact rfl)|refine V ?_|refine W2 ?_ ?_<;>intro hc
 refine p0c (fun k=>k<=l.length) (fun k=>l.length-k) (fun k=>[(11,.i k),(10,.i (l.map R).length),(0,.sl (l.map R)),(9,.sl (l.map R)),(5,.mp 0),(1,.fn (.func g) [] caps)]) (fun k=>[.map (Ux (Ej nm (l.take k)))]) 0 (a0k _) (.cons rfl rfl (.cons rfl rfl (.cons rfl rfl (.cons rfl rfl (.cons rfl rfl (.cons rfl (Bo hcaps) .nil)))))) (.map .nil) ?_
 intro k hk
 by_cases hlt:k<l.length
 ·have h1:(k:Int)<((l.map R).length:Nat):=by omega
  obtain⟨x,hx⟩:∃x,l[k]?=some x:=⟨l[k],a0b hlt⟩
  have hb:(l.map R)[((k:Nat):Int).toNat]?=some (R x):=by rw[a0q,a0d,hx];rfl
  have hx2:=hg x (a0a hx)
  have hsn:Ej nm (l.take (k+1))=H5 (Ej nm (l.take k)) (nm x) (.agg #[]):=by rw[a0u,hx];exact Qp nm _ x
  obtain⟨row,hrow⟩:∃row,R x=row:=⟨_,rfl⟩
  have hlen:=hR x
  have hone:=h1c x
  rw[hrow]at hb hx2 hlen hone
  match row,hlen,hone with
  |[a1,a2,a3],_,hone=>
   repeat' first|refine W ?_|refine Zi hb ?_|refine Zb5 ?_|refine Zbx hx2 (Gx (row:=[a1,a2,a3]) hcaps) ?_|(apply S.store;(iterate 4 exact rfl);exact hone;exact rfl;exact rfl)|(apply S.mapUpdate;(iterate 5 exact rfl))|refine Za ?_|refine V ?_|refine W2 ?_ ?_<;>intro hc
   exact Next.go (k+1) (by omega) (by omega) (.cons rfl rfl (.cons rfl rfl (.cons rfl rfl (.cons rfl rfl (.cons rfl rfl (.cons rfl (Bo hcaps) .nil)))))) (by show CovH _ _ [.map (Ux (Ej nm (l.take (k+1))))];rw[hsn];exact .map .nil)
 ·have h1:¬(k:Int)<((l.map R).length:Nat):=by omega
  have hk2:l.take k=l:=a0g (by omega)
  repeat' first|refine W ?_|(apply p4k;(iterate 3 exact rfl))|refine V ?_|refine W2 ?_ ?_<;>intro hc
  exact Dd rfl rfl (by rw[hk2,hle,A38];exact congrArg Value.bool (A4y nm l))

/-! ### Lists of items -/
def okI(len:Int)(m:List ItemR):Prop:=(∀x∈m,J6 x/\Fl x len)/\m.Pairwise fun y x=>E2 x y
def Vt(l:List ItemR)(len:Int):Prop:=l.length<=40/\(l.map ItemR.name).Nodup/\okI len l
noncomputable instance (l:List ItemR)(len:Int):Decidable (Vt l len):=Classical.propDecidable _
theorem okI_snoc{len:Int}{m:List ItemR}{x:ItemR}:okI len (m++[x])↔okI len m/\(J6 x/\Fl x len)/\∀y∈m,E2 x y:=by
 unfold okI
 rw[a5j]
 constructor
 ·rintro⟨h1,h2,_,h3⟩
  exact⟨⟨fun y hy=>h1 y (by simp[hy]),h2⟩,h1 x (by simp),fun y hy=>h3 y hy x (by simp)⟩
 ·rintro⟨⟨h1,h2⟩,h3,h4⟩
  refine⟨fun y hy=>?_,h2,by simp,fun y hy z hz=>?_⟩
  ·rcases a0p.1 hy with h|h
   ·exact h1 y h
   ·obtain rfl:y=x:=by simpa using h
    exact h3
  ·obtain rfl:z=x:=by simpa using hz
   exact h4 y hy
theorem A7n{len:Int}{a b:List ItemR}(h:okI len (a++b)):okI len a:=by
 unfold okI at h⊢
 rw[a5j]at h
 exact⟨fun x hx=>h.1 x (by simp[hx]),h.2.1⟩
theorem I6{x:ItemR}{len:Int}(hl:0<=len/\len<=1048576)(h:Fl x len):0<=x.at_/\x.at_<=1048576/\0<=x.width/\x.width<=1048576:=by
 obtain⟨h1,h2,h3⟩:=h
 omega
theorem Xl{l:List ItemR}{k:Nat}{x:ItemR}{len:Int}(hl:0<=len/\len<=1048576)(hs:l.length<=40)(hok:okI len (l.take k))(hx:Fl x len):
  Fz 238 [.sl ((l.map ItemR.row).take ((k:Nat):Int).toNat),.fn (.func 239) [] [.rop x.row]] (.b (decide (∃y∈l.take k,¬E2 x y))):=by
 rw[a0q,<-a6u]
 refine U3 (l.take k) ItemR.row (fun y=>¬E2 x y) _ _ (fun _=>rfl) (by simp;omega) rfl fun y hy=>?_
 exact A70 x y (I6 hl hx) (I6 hl (hok.1 y hy).2)
theorem A8z(l:List ItemR)(len:Int)(hl:0<=len/\len<=1048576)(hs:l.length<=9223372036854775807):Fz 174 [.sl (l.map ItemR.row),.i len] (.b (decide (Vt l len))):=by
 have htw:=Acl l ItemR.row ItemR.name 235 [] (fun _=>rfl) (fun _=>rfl) hs rfl fun x _=>A6z x
 have hle:=lmA l ItemR.row
 refine Fo Tryz.func174 ?_
 repeat' first|refine W ?_|refine Zc htw ?_|refine V ?_|refine W2 ?_ ?_<;>intro hc
 all_goals first
  |exact Dd rfl rfl (congrArg Value.bool (decide_eq_false (fun h=>by have:=h.1;omega)).symm)
  |exact Dd rfl rfl (congrArg Value.bool (decide_eq_false (fun h=>by have:=h.2.1;contradiction)).symm)
  |skip
 have hs40:l.length<=40:=by omega
 refine p0c (fun k=>k<=l.length/\okI len (l.take k)) (fun k=>l.length-k) (fun k=>[(16,.i k),(15,.i (l.map ItemR.row).length),(0,.sl (l.map ItemR.row)),(14,.sl (l.map ItemR.row)),(1,.i len)]) (fun _=>[]) 0 ⟨a0k _,by simp[okI]⟩ CV .nil ?_
 rintro k ⟨hk,hok⟩
 by_cases hlt:k<l.length
 ·have h1:(k:Int)<((l.map ItemR.row).length:Nat):=by omega
  obtain⟨x,hx⟩:∃x,l[k]?=some x:=⟨l[k],a0b hlt⟩
  have hb:(l.map ItemR.row)[((k:Nat):Int).toNat]?=some (ItemR.row x):=by rw[a0q,a0d,hx];rfl
  have hsn:l.take (k+1)=l.take k++[x]:=by rw[a0u,hx];rfl
  repeat' first|refine W ?_|refine Zi hb ?_|refine Zb5 ?_|refine Zc (A8x x) ?_|refine Zc (A6y x len hl) ?_|(apply p1o;(iterate 3 exact rfl);omega;(intro row hr;obtain⟨z,_,rfl⟩:=a1d.1 hr;rfl))|(apply S.callV;exact rfl;exact Xl hl hs40 hok (by assumption);exact .cons (.one (.lf _)) (.cons (.fn (.cons (.ptr0 rfl) .nil)) .nil);exact rfl;exact rfl)|refine Za ?_|refine V ?_|refine W2 ?_ ?_<;>intro hc
  all_goals first
   |exact Next.go (k+1) ⟨by omega,by rw[hsn];exact okI_snoc.2 ⟨hok,⟨by assumption,by assumption⟩,fun y hy=>a1x fun hn=>(by assumption:¬∃y∈l.take k,¬E2 x y) ⟨y,hy,hn⟩⟩⟩ (by omega) CV .nil
   |exact Dd rfl rfl (congrArg Value.bool (decide_eq_false (fun h=>by
    have h3:=a4i (k+1) l
    have h4:=h.2.2
    rw[<-h3,hsn]at h4
    have h5:=(okI_snoc.1 (A7n h4)).2
    first|exact absurd h5.1.1 (by assumption)|exact absurd h5.1.2 (by assumption)|exact(by assumption:∃y∈l.take k,¬E2 x y).elim fun y hy=>hy.2 (h5.2 y hy.1))).symm)
 ·have h1:¬(k:Int)<((l.map ItemR.row).length:Nat):=by omega
  rw[a0g (by omega)]at hok
  repeat' first|refine W ?_|refine V ?_|refine W2 ?_ ?_<;>intro hc
  exact Dd rfl rfl (congrArg Value.bool (decide_eq_true ⟨hs40,by first|assumption|exact a1x (by assumption),hok⟩).symm)
section
variable {P:Program}{N:Nat}{ops:Array Oper}{m:Option Nat}{K:Tm->AH->Prop}{tm tm':Tm}{H:AH}{rest:List Oper}{ty:TypeId}{pos:String}{af:Array Edge}{d:Nat}{t e:TypeId}{x y z:Operand}
theorem p4a{H:AH}{g:Nat}(h:H.nextId=some g):H.at g=.free:=by
 have:=Kk h
 subst this
 simp[AH.at]
theorem RelH.keep{w:World}{L:Nat->Prop}{ρ:Pl}{H:AH}(h:RelH w L ρ H){g:Nat}{cs:List AV}{vs:List Value}(hg:H.at g=.free)(hl:cs.length=vs.length)(hr:∀(i:Nat)(x:AV)(v:Value),cs[i]?=some x->vs[i]?=some v->RelV w L ρ x v):RelH w L ρ (H.put g (.gho cs vs)):=by
 have hput:∀{b:Nat}{y:HB},(∀cs vs,y≠.gho cs vs)->(H.put g (.gho cs vs)).at b=y->H.at b=y:=fun {b y} hy hb=>by
  rw[p0e]at hb
  split at hb
  ·exact absurd hb.symm (hy _ _)
  ·exact hb
 exact⟨fun b hb=>h.free b (hput (by intro _ _ h;cases h) hb),fun b hb=>h.dead b (hput (by intro _ _ h;cases h) hb),fun b cs' hb=>h.live b cs' (hput (by intro _ _ h;cases h) hb),fun b es hb=>h.map b es (hput (by intro _ _ h;cases h) hb),h.dist,
  h.ext.put (fun k o u h1 h2=>⟨h2,h1⟩) (by rw[hg];rfl) rfl (fun _ _=>rfl) (a0n _) (fun _ _ _ _ _ _ _ _ h=>h) (fun _ _ _ _ _=>rfl) (fun _ _ _ h=>by cases h) fun cs' vs' e=>by
   injection e with e1 e2
   subst e1 e2
   exact⟨(fun k o hk=>by rw[h.free g hg]at hk;cases hk),hl,hr⟩⟩
def Cx(P:Program)(fn:Func)(g:Nat)(cs:List AV)(vs:List Value)(J:AV->AH->Prop)(e:Exit)(st:St):Prop:=(e=.normal\/e=.ret)/\
 ∃rs,ResL P st fn.results.toList rs/\st.H.at g=.gho cs vs/\J (N7 rs) st.H
theorem Ae6{w:World}{L:Nat->Prop}{ρ:Pl}{rs:List AV}{us:List Value}(hl:rs.length=us.length)(h:∀(i:Nat)(x:AV)(v:Value),rs[i]?=some x->us[i]?=some v->RelV w L ρ x v):RelV w L ρ (N7 rs) (Sj us):=by
 match rs,us,hl,h with
 |[x],[u],_,h=>exact h 0 x u rfl rfl
 |[],[],_,h=>exact .tup [] [] rfl (fun i x u h=>by simp at h)
 |x::y::xs,u::v::us,hl,h=>exact .tup _ (u::v::us) hl h
theorem A5e:∀(keep:Tm)(t:Nat)(x:AV),keep.get t=some x->∃i:Nat,keep[i]?=some (t,x)
 |[],t,x,h=>by cases h
 |(k,y)::r,t,x,h=>by
  rw[p0w]at h
  by_cases e:k=t
  ·rw[if_pos e]at h
   injection h with h
   subst e h
   exact⟨0,rfl⟩
  ·rw[if_neg e]at h
   obtain⟨i,hi⟩:=A5e r t x h
   exact⟨i+1,hi⟩
theorem p2a(keep:Tm){g:Nat}{f:FuncId}{fn:Func}{c:Code}{N':Nat}{x:Operand}{xs:Array Operand}{ts:Array TypeId}{ys caps args:List AV}(hf:P.funcs[f]?=some fn)(hnt:fn.ntmps=N')(hb:fn.body=some c)(hn:(fn.name== "runtime.NumGoroutine")=false)
  (hx:evT tm x=some (.fn (.func f) [] caps)) (hy:evs (evT tm) xs.toList=some ys) (ha:ys++caps=args) (hN':Nat.ble args.length N'=true) (hg:H.nextId=some g) (hk:Cov tm g keep) (hN:LN d N)
  (h:∀vs:List Value,T P N' c ⟨Ak 0 args,H.put g (.gho (keep.map (·.2)) vs)⟩ (Cx P fn g (keep.map (·.2)) vs fun r H'=>Reg none P N ops rest ((d,r)::keep) H' K)):
  Reg none P N ops (⟨some d,.call ⟨.value x,xs,ts⟩,ty,pos,af,none⟩::rest) tm H K:=by
 subst hnt ha
 refine⟨fun E a w ρ hE hR=>?_⟩
 refine wpList_plain rfl fun K' hK=>?_
 have hNN:=a0c hN'
 obtain⟨g1,g2⟩:=Ff _ _ hy
 have hfv:=hR.ev (x:=x) (by rw[Am];exact hx)
 obtain⟨us,ws,h1,h2,h3,_,h4⟩:=hfv.fn_out
 simp only[a0m]at h2
 obtain rfl:us=[]:=a0z h2.symm
 have hent:Enters P f:=⟨fn,hf,hn,by rw[hb];rfl⟩
 have hrun:(execOp a.eval ⟨some d,.call ⟨.value x,xs,ts⟩,ty,pos,af,none⟩).run P w=.ok (.enter f (xs.toList.map a.eval++ws).toArray) w:=by
  have:(execOp a.eval ⟨some d,.call ⟨.value x,xs,ts⟩,ty,pos,af,none⟩).run P w=(callFunc f (#[]++xs.map a.eval++ws.toArray)).run P w:=by simp[execOp,resolve,h1,Deferred.ofValue,invoke]
  rw[this,hent.run]
  simp only[a5o,a5a,true_and,and_true]
  apply a6m
  simp
 unfold Oper.wp
 rw[hrun]
 --the callee's frame
 obtain⟨vs,hvs⟩:∃vs,vs=xs.toList.map a.eval++ws:=⟨_,rfl⟩
 have hvl:(ys++caps).length=vs.length:=by rw[hvs];simp[<-g1,h3]
 have hv:∀(i:Nat)(x:AV)(v:Value),(ys++caps)[i]?=some x->vs[i]?=some v->RelV w E.L ρ x v:=fun i x v hx hv=>by
  rw[hvs]at hv
  rcases a0y i ys.length with hi|hi
  ·rw[a1k hi]at hx
   rw[a1k (by rw[a0e,g1];exact hi)]at hv
   obtain⟨z,h5,h6⟩:=g2 i x hx
   rw[a0d,h5]at hv
   simp at hv
   subst hv
   exact hR.ev (by rw[Am];exact h6)
  ·rw[a1h hi]at hx
   rw[a1h (by rw[a0e,g1];exact hi),a0e,g1]at hv
   exact h4 _ _ _ hx hv
 rw[<-hvs]
 obtain⟨ks,hks⟩:∃ks,ks=keep.map (fun p=>a.tmps.getD p.1 undef):=⟨_,rfl⟩
 have hfree:=p4a hg
 have hkg:∀t y,keep.get t=some y->tm.get t=some y:=fun t y ht=>(hk.get t y ht).1
 have hko:∀(i:Nat)(p:Nat×AV),keep[i]?=some p->tm.get p.1=some p.2:=by
  have key:∀(keep:Tm),Cov tm g keep->∀(i:Nat)(p:Nat×AV),keep[i]?=some p->tm.get p.1=some p.2:=fun keep hc=>by
   induction hc with
   |nil=>intro i p hp;simp at hp
   |cons h hb c ih=>
    intro i p hp
    cases i with
    |zero=>simp at hp;subst hp;exact h
    |succ i=>exact ih i p (by simpa using hp)
  exact key keep hk
 let E':Env:={N:=fn.ntmps,L:=E.L,O:=E.O,w0:=E.w0,good:=E.good}
 have hsz:(vs.toArray++Array.replicate (fn.ntmps-vs.toArray.size) undef).size=fn.ntmps:=by simp;omega
 have hst:RelSt E' ⟨Ak 0 (ys++caps),H.put g (.gho (keep.map (·.2)) ks)⟩ {tmps:=vs.toArray++Array.replicate (fn.ntmps-vs.toArray.size) undef,defers:=[]} w ρ:=by
  refine⟨hsz,rfl,fun t x hx=>?_,hR.H.keep hfree (by rw[hks];simp) fun i y v hy hv=>?_,hR.fr,fun b k o hk=>hR.minePut g rfl hk,hR.lim⟩
  ·obtain⟨_,hx⟩:=Is _ _ _ _ hx
   rw[a6e]at hx
   have ht:t<(ys++caps).length:=(a0f.1 hx).1
   refine⟨by show t<fn.ntmps;omega,?_⟩
   have hu:vs[t]?=some (vs[t]'(by omega)):=a0b _
   have:(vs.toArray++Array.replicate (fn.ntmps-vs.toArray.size) undef).getD t undef=vs[t]'(by omega):=by
    rw[a0r,a1r (by simp;omega)]
    simp[hu]
   show RelV w E.L ρ x ((vs.toArray++Array.replicate (fn.ntmps-vs.toArray.size) undef).getD t undef)
   rw[this]
   exact hv t x _ hx hu
  ·rw[a0d]at hy
   rw[hks,a0d]at hv
   cases e:keep[i]? with
   |none=>rw[e]at hy;cases hy
   |some p=>
    rw[e]at hy hv
    simp only[a1g,a0h]at hy hv
    subst hy hv
    exact(hR.tm p.1 p.2 (hko i p e)).2
 have key:Calls P f vs.toArray w fun e w'=>∃v,e=.returned v/\K' (a.put (some d) v) w':=by
  refine calls_of_wp hf hb ?_
  refine wp_mono ((h ks).out E' _ w ρ rfl hst) ?_
  rintro e a' w' ⟨st',ρ',⟨he,rs,hrs,hgo,hreg⟩,hr'⟩
  obtain⟨us,h1,h2,h3⟩:=hrs.run hr'
  have hres:=Ht (fn:=fn) h1
  have hback:RelSt E ⟨keep,st'.H⟩ a w' ρ':=by
   refine⟨hR.size,hR.defers,fun t x hx=>?_,hr'.H,hr'.fr,hr'.mine,hr'.lim⟩
   obtain⟨i,hi⟩:=A5e keep t x hx
   obtain⟨_,_,q3⟩:=hr'.H.ext.gho g _ _ hgo
   exact⟨(hR.tm t x (hkg t x hx)).1,q3 i x _ (by rw[a0d,hi];rfl) (by rw[hks,a0d,hi];rfl)⟩
  have hfin:K' (a.put (some d) (Sj us)) w':=hK _ _ (hreg.out E _ w' ρ' hE (hback.put (by rw[hE];exact a0c hN) (Ae6 h2 h3)))
  rcases he with rfl|rfl
  ·exact⟨hr'.defers,_,hres,_,rfl,hfin⟩
  ·exact⟨hr'.defers,_,hres,_,rfl,hfin⟩
 refine key.mono ?_
 rintro e w' ⟨v,rfl,hv⟩
 exact hv
end
section
variable {P:Program}{N:Nat}{ops:Array Oper}
theorem p0d{K:Tm->AH->Prop}{n d:Nat}(i:Nat){listed:Array Bool}{tm:Tm}{H:AH}{x:Operand}{j:Nat}{ty:TypeId}{pos:String}{af:Array Edge}{cs:List AV}{r:AV}(ho:ops[i]?=some ⟨some d,.extract x j,ty,pos,af,none⟩)(hs:Region.noSelect ops=true)(hf:Region.free .any ops listed i=true)(hr:(Region.ready .any ops listed).contains i=true)(hx:evT tm x=some (.tup cs))(hc:cs[j]?=some r)(hN:LN d N)
  (h:Ords P N ops K n (listed.setIfInBounds i true) ((d,r)::tm) H):Ords P N ops K (n+1) listed tm H:=
 Ords.take ho hs hf hr hN (fun L w ρ η hη=>by
  obtain⟨vs,h1,hl,hv⟩:=(hη x (by simp[Op.operands]) _ hx).tup_out
  have hi:j<vs.length:=by rw[<-hl];exact(a0f.1 hc).1
  exact⟨vs[j],fun w'=>by simp[execOp,h1,Instr.extract,hi],hv j r _ hc (a0b hi)⟩) h
theorem p0g{K:Tm->AH->Prop}{n d:Nat}(i:Nat){listed:Array Bool}{tm:Tm}{H:AH}{x:Operand}{ty:TypeId}{pos:String}{af:Array Edge}{r:AV}(ho:ops[i]?=some ⟨some d,.assign x,ty,pos,af,none⟩)(hs:Region.noSelect ops=true)(hf:Region.free .any ops listed i=true)(hr:(Region.ready .any ops listed).contains i=true)(hx:evT tm x=some r)(hN:LN d N)
  (h:Ords P N ops K n (listed.setIfInBounds i true) ((d,r)::tm) H):Ords P N ops K (n+1) listed tm H:=
 Ords.take ho hs hf hr hN (fun L w ρ η hη=>⟨η x,fun w'=>by simp[execOp],hη x (by simp[Op.operands]) _ hx⟩) h
theorem p1c{K:Tm->AH->Prop}{n d:Nat}(i:Nat){listed:Array Bool}{tm:Tm}{H:AH}{x:Operand}{t ty:TypeId}{j b off fo:Nat}{pos:String}{af:Array Edge}{cells:List AV}[hfi:HasF P t j fo](ho:ops[i]?=some ⟨some d,.fieldAddr t x j,ty,pos,af,none⟩)(hs:Region.noSelect ops=true)(hf:Region.free .any ops listed i=true)(hr:(Region.ready .any ops listed).contains i=true)(hx:evT tm x=some (.ptr b off))(hb:H.at b=.live cells)(hN:LN d N)
  (h:Ords P N ops K n (listed.setIfInBounds i true) ((d,.ptr b (off+fo))::tm) H):Ords P N ops K (n+1) listed tm H:=⟨fun E a w ρ hE hR=>by
 obtain⟨fs,f,m,h1,h2,h3,h4,rfl⟩:=hfi.out
 obtain⟨k,o',arr,e,lo,hi',g1,g2,g3,g4,g5,g6⟩:=hR.H.live b cells hb
 have hv:=(hR.ev (x:=x) (by rw[Am];exact hx)).ptr_out k o' g1
 refine wpAny_take ho hs hf hr (fun c a w hq=>absurd hq.1 (by simp)) (.inl ⟨rfl,fun w'=>by simp only[execOp,hv,a0t,Kh h1 h2 h3 h4,a0o,a1m];rfl⟩) (h.out E _ w ρ hE (hR.put (by rw[hE];exact a0c hN) ?_))
 refine .ptr _ _ _ (by rw[g1];simp) rfl fun k2 o2 h2=>?_
 rw[g1]at h2
 injection h2 with h2
 injection h2 with h2
 injection h2 with h2 h3
 subst h2 h3
 rw[Bf rfl,a1t]⟩
end
theorem Y{G R:Prop}(r:R)(h:Rest R->G:=by
 intro r
 first
  |(apply S.call;exact rfl;exact rfl;assumption;exact rfl)
  |(apply S.indexR;(iterate 3 exact rfl);assumption;omega;exact rfl)
  |(apply p0i;(iterate 4 exact rfl))
  |(apply S.max2;(iterate 3 exact rfl))
  |(apply S.min2;(iterate 3 exact rfl))
  |refine Za ?_
  |(apply S.lenO;(iterate 3 exact rfl))
  |(apply p0y;(iterate 3 exact rfl))
 exact r.out):G:=h ⟨r⟩
theorem WY{G R:Prop}(r:R)(h:Rest R->G:=by
  intro r
  first
    |(apply S.move;exact rfl;exact rfl)
    |(apply S.assign;exact rfl;exact rfl)
    |(apply p6o;(iterate 3 exact rfl))
    |(apply p5s;(iterate 4 exact rfl))
    |(apply p6p;(iterate 3 exact rfl))
    |(apply p5g;exact rfl;exact rfl;assumption)
    |(apply p4s;exact rfl;exact rfl;assumption;exact rfl)
    |(apply p4q;exact rfl;exact rfl;assumption)
    |(apply p5f;exact rfl;exact rfl;assumption;exact rfl)
    |(apply p4t;exact rfl;exact rfl;assumption;exact rfl)
    |(apply p4r;exact rfl;exact rfl;assumption)
    |(apply S.fieldP;(iterate 3 exact rfl))
    |(apply S.loadP;(iterate 4 exact rfl))
    |(apply S.fieldR;exact rfl;exact rfl)
    |(apply S.loadR;(iterate 3 exact rfl))
    |(apply p6q;(iterate 3 exact rfl))
    |(apply p5u;(iterate 3 exact rfl))
    |(apply p5h;exact rfl;assumption;exact rfl;exact rfl)
    |(apply p4w;exact rfl;assumption;exact rfl;exact rfl)
    |(apply p5v;exact rfl;assumption;exact rfl;exact rfl)
    |(apply S.call;exact rfl;exact rfl;assumption;exact rfl)
    |(apply S.indexR;(iterate 3 exact rfl);assumption;omega;exact rfl)
    |(apply p0i;(iterate 4 exact rfl))
    |(apply S.max2;(iterate 3 exact rfl))
    |(apply S.min2;(iterate 3 exact rfl))
    |refine Za ?_
    |(apply S.lenO;(iterate 3 exact rfl))
    |(apply p0y;(iterate 3 exact rfl))
  exact r.out):G:=h ⟨r⟩
theorem WX{G R:Prop}(r:R)(h:Rest R->G:=by
  intro r
  first
    |(apply S.move;exact rfl;exact rfl)
    |(apply S.assign;exact rfl;exact rfl)
    |(apply p6o;(iterate 3 exact rfl))
    |(apply p5s;(iterate 4 exact rfl))
    |(apply p6p;(iterate 3 exact rfl))
    |(apply p5g;exact rfl;exact rfl;assumption)
    |(apply p4s;exact rfl;exact rfl;assumption;exact rfl)
    |(apply p4q;exact rfl;exact rfl;assumption)
    |(apply p5f;exact rfl;exact rfl;assumption;exact rfl)
    |(apply p4t;exact rfl;exact rfl;assumption;exact rfl)
    |(apply p4r;exact rfl;exact rfl;assumption)
    |(apply S.fieldP;(iterate 3 exact rfl))
    |(apply S.loadP;(iterate 4 exact rfl))
    |(apply S.fieldR;exact rfl;exact rfl)
    |(apply S.loadR;(iterate 3 exact rfl))
    |(apply p6q;(iterate 3 exact rfl))
    |(apply p5u;(iterate 3 exact rfl))
    |(apply p5h;exact rfl;assumption;exact rfl;exact rfl)
    |(apply p4w;exact rfl;assumption;exact rfl;exact rfl)
    |(apply p5v;exact rfl;assumption;exact rfl;exact rfl)
    |(apply S.call;exact rfl;exact rfl;assumption;exact rfl)
    |(apply S.indexR;(iterate 3 exact rfl);assumption;omega;exact rfl)
    |(apply p0i;(iterate 4 exact rfl))
    |(apply S.max2;(iterate 3 exact rfl))
    |(apply S.min2;(iterate 3 exact rfl))
    |refine Za ?_
    |(apply S.lenO;(iterate 3 exact rfl))
    |(apply p0y;(iterate 3 exact rfl))
    |(apply S.loadPA;(iterate 4 exact rfl))
    |(apply S.loadRA;(iterate 4 exact rfl))
    |(apply S.box;(iterate 6 exact rfl))
    |(apply S.alloc;(iterate 5 exact rfl))
    |(apply S.store;(iterate 7 exact rfl))
    |(apply p3u;(iterate 8 exact rfl))
    |(apply p6a;(iterate 4 exact rfl))
    |(apply S.strEq;(iterate 3 exact rfl))
    |(apply S.strNe;(iterate 3 exact rfl))
    |(apply p5n;exact rfl;exact rfl)
    |(apply S.not;(iterate 3 exact rfl))
    |(apply S.extract;(iterate 3 exact rfl))
    |(apply S.lenR;exact rfl;exact rfl)
    |(apply S.lenS;exact rfl;exact rfl)
    |(apply S.makeFunc;exact rfl;exact rfl)
    |(apply S.build;(iterate 3 exact rfl))
    |(apply p3f;exact rfl;exact rfl)
    |(apply p3e;(iterate 3 exact rfl))
    |apply S.nil
    |apply p5r
    |apply p6l
    |(apply p6t;exact rfl)
    |(apply p6j;exact rfl)
    |(apply p6w;exact rfl;assumption)
    |(apply p6u;exact rfl;assumption)
    |(apply p6k;exact rfl;assumption)
    |apply T.seq
    |(apply T.skip;first|change T _ _ _ _ _|change Ao _ _ _ _ _|change Next _ _ _ _ _ _|skip)
    |(apply T.ret;change Ao _ _ _ _ _)
    |(apply T.exit;first|change T _ _ _ _ _|change Ao _ _ _ _ _|change Next _ _ _ _ _ _|skip)
    |apply T.block
  exact r.out):G:=h ⟨r⟩
section
variable {P:Program}{N:Nat}{ops:Array Oper}
theorem p3j{K:Tm->AH->Prop}{n d:Nat}(i:Nat){listed:Array Bool}{tm:Tm}{H:AH}{bo:BinOp}{x y:Operand}{t u ty:TypeId}{pos:String}{af:Array Edge}{a b c:Int}(ho:ops[i]?=some ⟨some d,.binOp bo t x y u,ty,pos,af,none⟩)(hs:Region.noSelect ops=true)(hf:Region.free .any ops listed i=true)(hr:(Region.ready .any ops listed).contains i=true)(hN:LN d N)(hx:evT tm x=some (.val (.int .i64 a)))(hy:evT tm y=some (.val (.int .i64 b)))(hc:J7 bo a b=some c)(h0: -9223372036854775808<=c/\c<=9223372036854775807)
  (h:Ords P N ops K n (listed.setIfInBounds i true) ((d,.val (.int .i64 c))::tm) H):Ords P N ops K (n+1) listed tm H:=
 Ords.take ho hs hf hr hN (fun L w ρ η hη=>by
  have hw:IntKind.i64.wrap c=c:=by
   simp[IntKind.wrap,IntKind.signed,IntKind.bits]
   omega
  have h1:=(hη x (by simp[Op.operands]) _ hx).val_eq
  have h2:=(hη y (by simp[Op.operands]) _ hy).val_eq
  refine⟨.int .i64 c,fun w'=>?_,Ab _⟩
  cases bo<;>simp only[J7,reduceCtorEq,a0h]at hc<;>subst hc<;>simp[execOp,h1,h2,eqGuard,binOp,Op.intArith,hw]) h
theorem p3n{K:Tm->AH->Prop}{n i j k:Nat}{listed:Array Bool}{tm:Tm}{H:AH}{o q r:Oper}(hr:Region.ready .any ops listed=[i,j,k])(ho:ops[i]?=some o)(hq:ops[j]?=some q)(hk:ops[k]?=some r)(h:Reg none P N ops [o] tm H (Ords P N ops K n (listed.setIfInBounds i true)))(h2:Reg none P N ops [q] tm H (Ords P N ops K n (listed.setIfInBounds j true)))(h3:Reg none P N ops [r] tm H (Ords P N ops K n (listed.setIfInBounds k true))):Ords P N ops K (n+1) listed tm H:=⟨fun E _ _ ρ hE hs=>by
 refine⟨fun h=>(by rw[hr]at h;cases h),fun z hz=>?_⟩
 rw[hr]at hz
 rcases(by simpa using hz:z=i\/z=j\/z=k)with rfl|rfl|rfl
 ·exact p1w ho h E _ _ ρ hE hs
 ·exact p1w hq h2 E _ _ ρ hE hs
 ·exact p1w hk h3 E _ _ ρ hE hs⟩
theorem p3h{id:Nat}{Q:Exit->St->Prop}{tm:Tm}{H:AH}(hm:P.follows .mixedOrders=true)(h:Ords P N ops (fun tm H=>Q .normal ⟨tm,H⟩) ops.size (Array.replicate ops.size false) tm H):T P N (.region id ops true) ⟨tm,H⟩ Q:=by
 refine⟨fun E a w ρ hE hr=>?_⟩
 have hr':RelSt E ⟨tm,H⟩ a {w with drawn:=w.drawn+1} ρ:=hr.below ⟨rfl,rfl,rfl,a0n _,fun _ _=>rfl⟩
 refine wp_mono (wp_region_any hm (h.out E a _ ρ hE hr')) ?_
 rintro e a' w' ⟨rfl,st',ρ',g1,g2⟩
 exact⟨st',ρ',g1,g2⟩
end
section
variable {P:Program}{N:Nat}{ops:Array Oper}{m:Option Nat}{K:Tm->AH->Prop}{tm tm':Tm}{H:AH}{rest:List Oper}{ty:TypeId}{pos:String}{af:Array Edge}{d:Nat}{t e:TypeId}{x y z:Operand}
theorem OpV.idxV{o:Oper}{ev:Operand->Option AV}{Hf:Nat->HB}{k:IntKind}{i:Int}{len:Nat}{cs:List AV}{c:AV}{ds:TypeDesc}(ho:o.op=.index t x y)(hx:ev x=some (.agg cs))(hy:ev y=some (.val (.int k i)))(hu:P.underlying t=some (.array len e))(he:P.underlying e=some ds)(hr:ds.isRow=false)(hi:(P.info? e).map (·.size)=some 1)(h0:0<=i/\i<len)(hc:cs[i.toNat]?=some c):OpV P o ev Hf c none:=OpV.mk fun L w ρ η hη _=>by
 obtain⟨vs,h1,hl,hv⟩:=(hη x (by simp[ho,Op.operands]) _ hx).agg_out
 have h2:=(hη y (by simp[ho,Op.operands]) _ hy).val_eq
 have hlt:i.toNat<vs.length:=by rw[<-hl];exact(a0f.1 hc).1
 have hg:=a0b hlt
 refine⟨vs[i.toNat],?_,hv _ _ _ hc hg⟩
 simp[execOp,ho,h1,h2,Instr.index,asIntOf,run_underlying hu,h0,Ax hi,part,N4 he,hr,hlt]
theorem S.idxV{k:IntKind}{i:Int}{len:Nat}{cs:List AV}{c:AV}{ds:TypeDesc}[hu:HasU P t (.array len e)][he:HasU P e ds][hi:HasS P e 1](hx:evT tm x=some (.agg cs))(hy:evT tm y=some (.val (.int k i)))(hr:ds.isRow=false)(h0:0<=i/\i<len)(hc:cs[i.toNat]?=some c)(hN:LN d N)(h:Reg m P N ops rest ((d,c)::tm) H K):Reg m P N ops (⟨some d,.index t x y,ty,pos,af,none⟩::rest) tm H K:=
 S.val (OpV.idxV rfl hx hy hu.out he.out hr hi.out h0 hc) hN h
end
section
variable {P:Program}{N:Nat}{ops:Array Oper}{m:Option Nat}{K:Tm->AH->Prop}{tm:Tm}{H:AH}{rest:List Oper}{ty:TypeId}{pos:String}{af:Array Edge}{d:Nat}{t e:TypeId}
theorem p0b{ps:Array (Nat×Operand)}{n:Nat}{zv:Value}{ys:List (Nat×AV)}{out:List AV}{cs:List Lf}[hu:HasU P t (.slice e)][hi:HasS P e n][hz:HasZ P e zv](h1:Nat.ble 1 (1*n)=true)(h2:Nat.ble (1*n) 16777216=true)(hy:Ew (evT tm) ps.toList=some ys)(ho:Hl (fun(i:Nat)=>some (i*n,n)) ys (Gp zv (1*n))=some out)(hc:lfs out=some cs)(hl:Nat.beq cs.length (1*n)=true)(hN:LN d N)(h:Reg m P N ops rest ((d,.sl [cs])::tm) H K):Reg m P N ops (⟨some d,.buildSlice t 1 ps,ty,pos,af,none⟩::rest) tm H K:=
 p0m h1 h2 hy ho hc hl (by
  have:=a2b hl
  simp only[chunks,Uz]
  rw[a0g (by omega)]) hN h
end
theorem A9{n:Nat}{r:List Lf}(h:r.length=n):∀x∈[r],x.length=n:=by
 intro x hx
 simp only[a1q,a2t,or_false]at hx
 rw[hx];exact h
theorem Ac(n:Nat)(cs:List Lf):(cs.map AV.lf).all (AV.under n)=true:=by
 rw[a0l]
 intro x hx
 obtain⟨y,_,rfl⟩:=a1d.1 hx
 rfl
def rT(b st:Nat):Nat->AV
 |0=>.val (.slice none 0 0)
 |n+1=>.own b 0 (n+1) st
def rB(cells:List AV):Nat->HB
 |0=>.dead
 |_+1=>.live cells
theorem Gf{b st n:Nat}(h:0<n):rT b st n=.own b 0 n st:=by cases n<;>first|omega|rfl
theorem Ge{cells:List AV}{n:Nat}(h:0<n):rB cells n=.live cells:=by cases n<;>first|omega|rfl
theorem Ur(n b st:Nat):∀k,b<n->(rT b st k).under n=true
 |0,_=>rfl
 |k+1,h=>by show Nat.blt b n=true;exact a3f h
theorem p2m{n:Nat}{cells:List AV}{H H':AH}(hb:cells.all (AV.under n)=true)(c:CovH n H H'):∀k,CovH n (rB cells k::H) (rB cells k::H')
 |0=>.dead c
 |_+1=>.live hb c
section
variable {P:Program}{N:Nat}{ops:Array Oper}{K:Tm->AH->Prop}{tm:Tm}{H:AH}{rest:List Oper}{ty:TypeId}{pos:String}{af:Array Edge}{d:Nat}{t e:TypeId}{x:Operand}
end
theorem Zb0{G R:Prop}(r:R)(h:Rest R→G:=by intro r;apply p0b;(iterate 7 exact rfl);exact r.out):G:=h ⟨r⟩
theorem Zb2{A0:Prop}(a0:A0){G R:Prop}(r:R)(h:A0→Rest R→G:=by intro a0 r;apply p0h;(iterate 8 exact rfl);exact a0;exact A9 rfl;exact rfl;exact Aj _ _;simp only[a0j,a0m];omega;simp only[a0j,a0m];omega;exact r.out):G:=h a0 ⟨r⟩
theorem Zbd{G R:Prop}(r:R)(h:Rest R→G:=by intro r;apply p0q 1 (rows:=[]);(iterate 8 exact rfl);exact A9 rfl;exact rfl;exact a0c rfl;exact a0c rfl;exact r.out):G:=h ⟨r⟩
theorem Zbh{G R:Prop}(r:R)(h:Rest R→G:=by intro r;apply p0d 5;exact rfl;decide+kernel;decide+kernel;decide+kernel;(iterate 3 exact rfl);exact r.out):G:=h ⟨r⟩
theorem Zbk{G R:Prop}(r:R)(h:Rest R→G:=by intro r;apply p0q 2 (rows:=[]);(iterate 8 exact rfl);exact A9 rfl;exact rfl;exact a0c rfl;exact a0c rfl;exact r.out):G:=h ⟨r⟩
theorem Zbp{G R:Prop}(r:R)(h:Rest R→G:=by intro r;apply p0d 6;exact rfl;decide+kernel;decide+kernel;decide+kernel;(iterate 3 exact rfl);exact r.out):G:=h ⟨r⟩
theorem Zbr{G R:Prop}(r:R)(h:Rest R→G:=by intro r;apply p0q 3 (rows:=[]);(iterate 8 exact rfl);exact A9 rfl;exact rfl;exact a0c rfl;exact a0c rfl;exact r.out):G:=h ⟨r⟩
theorem Zbu{G R:Prop}(r:R)(h:Rest R→G:=by intro r;apply p0g 8;exact rfl;decide+kernel;decide+kernel;decide+kernel;exact rfl;exact rfl;exact r.out):G:=h ⟨r⟩
theorem Zbw{G R:Prop}(r:R)(h:Rest R→G:=by intro r;apply p0q 0 (rows:=[]);(iterate 8 exact rfl);exact A9 rfl;exact rfl;exact a0c rfl;exact a0c rfl;exact r.out):G:=h ⟨r⟩
theorem Zd4{G R:Prop}(r:R)(h:Rest R→G:=by intro r;apply p0d 4;exact rfl;decide+kernel;decide+kernel;decide+kernel;(iterate 3 exact rfl);exact r.out):G:=h ⟨r⟩
theorem Zda{G R:Prop}(r:R)(h:Rest R→G:=by intro r;apply p0d 25;exact rfl;decide+kernel;decide+kernel;decide+kernel;(iterate 3 exact rfl);exact r.out):G:=h ⟨r⟩
theorem Zdb{G R:Prop}(r:R)(h:Rest R→G:=by intro r;apply p0d 26;exact rfl;decide+kernel;decide+kernel;decide+kernel;(iterate 3 exact rfl);exact r.out):G:=h ⟨r⟩
theorem Zdd{G R:Prop}(r:R)(h:Rest R→G:=by intro r;apply p1c 2;exact rfl;decide+kernel;decide+kernel;decide+kernel;(iterate 3 exact rfl);exact r.out):G:=h ⟨r⟩
theorem Zde{G R:Prop}(r:R)(h:Rest R→G:=by intro r;apply p0d 7;exact rfl;decide+kernel;decide+kernel;decide+kernel;(iterate 3 exact rfl);exact r.out):G:=h ⟨r⟩
theorem Zdf{G R:Prop}(r:R)(h:Rest R→G:=by intro r;apply p1c 8;exact rfl;decide+kernel;decide+kernel;decide+kernel;(iterate 3 exact rfl);exact r.out):G:=h ⟨r⟩
theorem Zdg{G R:Prop}(r:R)(h:Rest R→G:=by intro r;apply S.idxV;(iterate 3 exact rfl);exact⟨by decide,by decide⟩;exact rfl;exact rfl;exact r.out):G:=h ⟨r⟩
theorem Zdl{G R:Prop}(r:R)(h:Rest R→G:=by intro r;apply p0g 10;exact rfl;decide+kernel;decide+kernel;decide+kernel;exact rfl;exact rfl;exact r.out):G:=h ⟨r⟩
theorem Zdn{G R:Prop}(r:R)(h:Rest R→G:=by intro r;apply p0g 27;exact rfl;decide+kernel;decide+kernel;decide+kernel;exact rfl;exact rfl;exact r.out):G:=h ⟨r⟩
theorem Zdo{G R:Prop}(r:R)(h:Rest R→G:=by intro r;apply p0g 28;exact rfl;decide+kernel;decide+kernel;decide+kernel;exact rfl;exact rfl;exact r.out):G:=h ⟨r⟩
theorem Zdu{G R:Prop}(r:R)(h:Rest R→G:=by intro r;apply p0h;(iterate 9 exact rfl);exact A9 rfl;exact rfl;exact rfl;exact a0c rfl;exact a0c rfl;exact r.out):G:=h ⟨r⟩
theorem Zdy{G R:Prop}(r:R)(h:Rest R→G:=by intro r;apply p0g 7;exact rfl;decide+kernel;decide+kernel;decide+kernel;exact rfl;exact rfl;exact r.out):G:=h ⟨r⟩
end Go.Proofs.YtcaicpnepfjcmaaGreat
