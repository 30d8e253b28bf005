/- Lemmas of the proof. -/
import Derived.Test.YtcaicpnepfjcmaaGreatOg
import Derived.Test.YtcaicpnepfjcmaaGreatOs
import Derived.Test.YtcaicpnepfjcmaaGreatPe
set_option linter.all false
set_option maxHeartbeats 64000000
namespace Go.Proofs.YtcaicpnepfjcmaaGreat
open Go Go.RowKit
def a7v:= @Tryz.func23
def a8k:= @Tryz.func53
def b1w:= @List.filterMap_append
def b3g:= @Tryz.func50
structure ConR where
 a:ByteArray
 b:ByteArray
 lo:Int
 hi:Int
def ConR.row(x:ConR):List Lf:=[.s x.a,.s x.b,.i x.lo,.i x.hi]
abbrev M5(l:List ConR):List AV:=(l.map ConR.row).flatten.map .lf
theorem Xc(l:List ConR):∀r∈l.map ConR.row,r.length=4:=by
 intro r hr
 obtain⟨n,_,rfl⟩:=a1d.1 hr
 rfl
theorem Va(l:List ConR):(M5 l).length=l.length*4:=by
 rw[a0e,Bc _ (Xc l),a0e]
theorem T6(l:List ConR)(x:ConR):M5 (l++[x])=M5 l++([x.row].flatten).map AV.lf:=by simp[M5]
structure Two(a b:SetR)(x y:List PcQ):Prop where
 pa:Cb a
 pb:Cb b
 fa:a.fits
 fb:b.fits
 ox:okC x
 oy:okC y
 x0:x≠[]
 y0:y≠[]
 sx:Ag x
 sy:Ag y
 nx:x.length<=200
 ny:y.length<=200
def A8m(x:List PcQ):Prop:=Fz 93 [.sl (x.map PcQ.row)] (.b true)
theorem Two.vx{a b:SetR}{x y:List PcQ}(h:Two a b x y):A8m x:=Lk x h.ox h.sx (a1i.2 h.x0) h.nx
theorem Two.vy{a b:SetR}{x y:List PcQ}(h:Two a b x y):A8m y:=Lk y h.oy h.sy (a1i.2 h.y0) h.ny
theorem Yu:Fits (1099511627776:Rat):=by decide+kernel
theorem G0:Fits (0:Rat):=by decide+kernel
theorem A9a(a b:SetR)(x y:List PcQ)(h:Two a b x y)(te:Rat)(ht:Fits te)(h0:0<=te)(h1:te<=1099511627776):
  Fz 50 [A0 a.row,A0 b.row,.sl (x.map PcQ.row),.sl (y.map PcQ.row),A0 (frR te)] (.i 0):=by
 have va:=Gv a h.fa
 have vb:=Gv b h.fb
 rw[decide_eq_true h.pa]at va
 rw[decide_eq_true h.pb]at vb
 have vx:=h.vx
 have vy:=h.vy
 unfold A8m at vx vy
 have vt:Fz 71 [A0 (frR te)] (.b true):=by
  have:=I3 te.num te.den
  rwa[ht.valid]at this
 have cm:=Rg te 1099511627776 ht Yu
 change Fn0 _ _ [_,A0 [.i 1099511627776,.i 1]] _ at cm
 have k0:¬0<Ay te 1099511627776:=fun h=>a1j.2 h1 ((He _ _).1 h)
 have k1:¬te.num<0:=by have:=a4t.2 h0;omega
 generalize Ay te 1099511627776=c at cm k0
 refine Fo b3g ?_
 repeat' first|refine WY ?_|refine Zbj ?_|refine Da ?_|refine V ?_|refine W2 ?_ ?_<;>intro hc
 all_goals exact Dd rfl rfl rfl
theorem Qr(l:List PcQ)(fr te:Rat):∃u v e:Int,By l fr te=.tup [A0 [.i u,.i v],.i e]:=by
 unfold By
 cases e:Fa (A5 l fr) fr te (A5 l fr).length with
 |none=>exact⟨0,0,12,rfl⟩
 |some r=>
  obtain⟨j,_,hst,_⟩:=Zo e
  have key:∃u v:Int,r=[.i u,.i v]:=by
   unfold D0 at hst
   split at hst
   ·cases hst
   ·split at hst
    ·injection hst with hst;subst hst;unfold enQ;split<;>exact⟨_,_,rfl⟩
    ·split at hst
     ·injection hst with hst;subst hst;unfold Ig;split<;>exact⟨_,_,rfl⟩
     ·cases hst
  obtain⟨u,v,rfl⟩:=key
  exact⟨u,v,0,rfl⟩
theorem Mf:A0 (frR 0)=A0 [.i 0,.i 1]:=rfl
theorem A10(a b:SetR)(x y:List PcQ)(h:Two a b x y):
  Fz 53 [A0 a.row,A0 b.row,.sl (x.map PcQ.row),.sl (y.map PcQ.row)] (.tup [.sl ((dsL (As a) (As b) x y).map PcQ.row),.i (dsE (As a) (As b) x y)]):=by
 have cu:=Aaw x 0 h.ox h.x0 (by have:=h.nx;omega) G0 h.vx
 have cv:=Aaw y 0 h.oy h.y0 (by have:=h.ny;omega) G0 h.vy
 rw[Mf]at cu cv
 have gA:=On a h.fa.2.1
 have gB:=On b h.fb.2.1
 rw[<-A9z]at gA gB
 have fA:=P1 h.pa
 have fB:=P1 h.pb
 have fu:=Oe (t:=0) h.ox h.x0
 have fv:=Oe (t:=0) h.oy h.y0
 have lA:=Tb x y (As a) h.ox h.oy h.x0 h.y0 h.nx h.ny fA h.vx h.vy
 have lB:=Tb y x (As b) h.oy h.ox h.y0 h.x0 h.ny h.nx fB h.vy h.vx
 unfold dsL dsE
 generalize As a=ha at*
 generalize As b=hb at*
 generalize lwL x y ha=LA at*
 generalize lwE x y ha=EA at*
 generalize lwL y x hb=LB at*
 generalize lwE y x hb=EB at*
 unfold K5 at cu cv
 by_cases e1:atE x 0 0=0
 ·rw[if_pos e1]at cu
  by_cases e2:atE y 0 0=0
  ·rw[if_pos e2]at cv
   have c1:=Hs (atQ x 0) (atQ y 0) fu fv
   generalize atQ x 0=u at*
   generalize atQ y 0=v at*
   unfold Bg at c1
   by_cases e3:Fits (u-v)
   ·rw[if_pos e3]at c1
    have c2:=Hs (u-v) ha e3 fA
    unfold Bg at c2
    by_cases e4:Fits (u-v-ha)
    ·rw[if_pos e4]at c2
     simp only[e1,e2,e3,e4,if_true]
     generalize u-v=w at*
     by_cases e5:0<=w-ha
     ·have e6:(w-ha).num>=0:=a4t.2 e5
      generalize w-ha=z at*
      simp only[e5,if_true]
      skip
      refine Fo a8k ?_
      repeat' first|refine WY ?_|refine Zbj ?_|refine Da ?_|refine Dw 7 ?_|refine V ?_|refine W2 ?_ ?_<;>intro hc
      all_goals exact D2 rfl rfl rfl
     ·have e6:¬(w-ha).num>=0:=fun k=>e5 (a4t.1 k)
      generalize w-ha=z at*
      simp only[e5,if_false]
      skip
      refine Fo a8k ?_
      repeat' first|refine WY ?_|refine Zbj ?_|refine Da ?_|refine Dw 7 ?_|refine V ?_|refine W2 ?_ ?_<;>intro hc
      all_goals exact D2 rfl rfl rfl
    ·rw[if_neg e4]at c2
     simp only[e1,e2,e3,e4,if_true,if_false]
     skip
     refine Fo a8k ?_
     repeat' first|refine WY ?_|refine Zbj ?_|refine Da ?_|refine Dw 7 ?_|refine Zbn ?_|refine V ?_|refine W2 ?_ ?_<;>intro hc
     all_goals exact D2 rfl rfl rfl
   ·rw[if_neg e3]at c1
    simp only[e1,e2,e3,if_true,if_false]
    skip
    refine Fo a8k ?_
    repeat' first|refine WY ?_|refine Zbj ?_|refine Da ?_|refine Zbn ?_|refine V ?_|refine W2 ?_ ?_<;>intro hc
    all_goals exact D2 rfl rfl rfl
  ·rw[if_neg e2]at cv
   simp only[e1,e2,if_true,if_false]
   generalize atE y 0 0=e at*
   skip
   refine Fo a8k ?_
   repeat' first|refine WY ?_|refine Zbj ?_|refine Da ?_|refine Zbn ?_|refine V ?_|refine W2 ?_ ?_<;>intro hc
   all_goals exact D2 rfl rfl rfl
 ·rw[if_neg e1]at cu
  simp only[e1,if_false]
  generalize atE x 0 0=e at*
  skip
  refine Fo a8k ?_
  repeat' first|refine WY ?_|refine Zbj ?_|refine Da ?_|refine Zbn ?_|refine V ?_|refine W2 ?_ ?_<;>intro hc
  all_goals exact D2 rfl rfl rfl
theorem A99(a b:SetR)(x y:List PcQ)(h:Two a b x y)(te:Rat)(ht:Fits te)(h0:0<=te)(h1:te<=1099511627776):
  Fz 23 [A0 a.row,A0 b.row,.sl (x.map PcQ.row),.sl (y.map PcQ.row),A0 (frR te)] (Jc a b x y te):=by
 have cg:=A9a a b x y h te ht h0 h1
 have cn:=Q5 a b h.pa h.pb h.fa h.fb
 have gA:=On a h.fa.2.1
 have gB:=On b h.fb.2.1
 have cd:=A10 a b x y h
 unfold Jc
 by_cases e1:Cu a b
 ·rw[decide_eq_true e1]at cn
  by_cases e2:Bh a=0/\Bh b=0
  ·obtain⟨e2,e3⟩:=e2
   have hc:¬(Cu a b/\¬(Bh a=0/\Bh b=0)):=fun k=>k.2 ⟨e2,e3⟩
   rw[if_neg hc]
   rw[e2]at gA
   rw[e3]at gB
   refine Fo a7v ?_
   repeat' first|refine WY ?_|(apply S.field (i:=0) (f:=⟨"Num",3,0,false, "", "",0⟩) Tryz.underlying55 rfl Tryz.underlying3 rfl;(iterate 3 exact rfl))|refine Zbj ?_|refine Da ?_|refine V ?_|refine W2 ?_ ?_<;>intro hc
   all_goals exact D3 rfl rfl rfl rfl rfl rfl rfl
  ·have hc:Cu a b/\¬(Bh a=0/\Bh b=0):=⟨e1,e2⟩
   rw[if_pos hc]
   by_cases e3:dsE (As a) (As b) x y=0
   ·rw[if_pos e3]
    rw[e3]at cd
    obtain⟨d1,d2,d3,d4⟩:=A9n h.ox h.oy h.x0 h.y0 h.sx h.sy e3
    generalize dsL (As a) (As b) x y=l at*
    have cf:=Aax l 0 te d1 d3 d4 G0 ht (Lk l d1 d2 (a1i.2 d3) d4) h0 ⟨by decide,by decide⟩ ⟨a1c (by decide) h0,h1⟩
    rw[Mf]at cf
    obtain⟨u1,u2,u3,hu⟩:=Qr l 0 te
    rw[hu]at cf⊢
    by_cases e4:Bh a=0
    ·have e5:¬Bh b=0:=fun k=>e2 ⟨e4,k⟩
     refine Fo a7v ?_
     repeat' first|refine WY ?_|(apply S.field (i:=0) (f:=⟨"Num",3,0,false, "", "",0⟩) Tryz.underlying55 rfl Tryz.underlying3 rfl;(iterate 3 exact rfl))|refine Zbj ?_|refine Da ?_|refine V ?_|refine W2 ?_ ?_<;>intro hc
     all_goals exact D3 rfl rfl rfl rfl rfl rfl rfl
    ·skip
     refine Fo a7v ?_
     repeat' first|refine WY ?_|(apply S.field (i:=0) (f:=⟨"Num",3,0,false, "", "",0⟩) Tryz.underlying55 rfl Tryz.underlying3 rfl;(iterate 3 exact rfl))|refine Zbj ?_|refine Da ?_|refine V ?_|refine W2 ?_ ?_<;>intro hc
     all_goals exact D3 rfl rfl rfl rfl rfl rfl rfl
   ·rw[if_neg e3]
    generalize dsL (As a) (As b) x y=l at*
    generalize dsE (As a) (As b) x y=e at*
    by_cases e4:Bh a=0
    ·have e5:¬Bh b=0:=fun k=>e2 ⟨e4,k⟩
     refine Fo a7v ?_
     repeat' first|refine WY ?_|(apply S.field (i:=0) (f:=⟨"Num",3,0,false, "", "",0⟩) Tryz.underlying55 rfl Tryz.underlying3 rfl;(iterate 3 exact rfl))|refine Zbj ?_|refine Da ?_|refine V ?_|refine W2 ?_ ?_<;>intro hc
     all_goals exact D3 rfl rfl rfl rfl rfl rfl rfl
    ·skip
     refine Fo a7v ?_
     repeat' first|refine WY ?_|(apply S.field (i:=0) (f:=⟨"Num",3,0,false, "", "",0⟩) Tryz.underlying55 rfl Tryz.underlying3 rfl;(iterate 3 exact rfl))|refine Zbj ?_|refine Da ?_|refine V ?_|refine W2 ?_ ?_<;>intro hc
     all_goals exact D3 rfl rfl rfl rfl rfl rfl rfl
 ·have hc:¬(Cu a b/\¬(Bh a=0/\Bh b=0)):=fun k=>e1 k.1
  rw[if_neg hc]
  rw[decide_eq_false e1]at cn
  refine Fo a7v ?_
  repeat' first|refine WY ?_|(apply S.field (i:=0) (f:=⟨"Num",3,0,false, "", "",0⟩) Tryz.underlying55 rfl Tryz.underlying3 rfl;(iterate 3 exact rfl))|refine Zbj ?_|refine Da ?_|refine V ?_|refine W2 ?_ ?_<;>intro hc
  all_goals exact D3 rfl rfl rfl rfl rfl rfl rfl
def pr3:AV->Int×Int×Int
 | .tup [.agg [.lf (.val (.int .i64 u)),.lf (.val (.int .i64 v))],.lf (.val (.int .i64 e))]=>(u,v,e)
 |_=>(0,0,1)
theorem A54(a b:SetR)(x y:List PcQ)(te:Rat):Jc a b x y te=.tup [A0 [.i (pr3 (Jc a b x y te)).1,.i (pr3 (Jc a b x y te)).2.1],.i (pr3 (Jc a b x y te)).2.2]:=by
 have key:∃u v e:Int,Jc a b x y te=.tup [A0 [.i u,.i v],.i e]:=by
  unfold Jc
  split
  ·split
   ·exact Qr _ _ _
   ·exact⟨0,0,_,rfl⟩
  ·exact⟨0,0,12,rfl⟩
 obtain⟨u,v,e,h⟩:=key
 rw[h]
 rfl
/-! ### Contacts -/
def Io(h:HouseR)(n:ByteArray):Option SetR:=h.sets[(Aa h n).toNat]?
def L5(h:HouseR)(n:ByteArray):Nat:=(Aa h n).toNat
noncomputable def Bt(h:HouseR)(c:SheetR)(G:List Int)(n:ByteArray):Int:=match Io h n with
 |some s=>if Jg c (stL h c G) (B0 h c)then Fp h c (stL h c G) (L5 h n) s else 13
 |none=>9
def Br(h:HouseR)(c:SheetR)(G:List Int)(n:ByteArray):List PcQ:=match Io h n with
 |some s=>Ik h c (stL h c G) (L5 h n) s
 |none=>[]
noncomputable instance (l:List PcQ):Decidable (Ag l):=Classical.propDecidable _
def Fg(h:HouseR)(c:SheetR)(G:List Int):Rat:=A4 (endI h c G) 1000
noncomputable def frT(a b:SetR)(x y:List PcQ)(te:Rat):Int×Int×Int:=if Ag x/\Ag y then pr3 (Jc a b x y te)else(0,0,1)
noncomputable def ctR(h:HouseR)(c:SheetR)(G:List Int)(p:ByteArray×ByteArray):Int×Int×Int:=match Io h p.1,Io h p.2 with
 |some a,some b=>if Bt h c G p.1=0 then(if Bt h c G p.2=0 then frT a b (Br h c G p.1) (Br h c G p.2) (Fg h c G)else(0,0,Bt h c G p.2))else(0,0,Bt h c G p.1)
 |_,_=>(0,0,9)
noncomputable def U2(h:HouseR)(c:SheetR)(G:List Int)(p:ByteArray×ByteArray):Option ConR:=if(ctR h c G p).2.2=0 then some ⟨p.1,p.2,(ctR h c G p).1,(ctR h c G p).2.1⟩else none
noncomputable def Ci(h:HouseR)(c:SheetR)(G:List Int)(l:List (ByteArray×ByteArray)):List ConR:=l.filterMap (U2 h c G)
def Cj(h:HouseR)(c:SheetR)(G:List Int)(p:ByteArray×ByteArray):Prop:=(ctR h c G p).2.2=0\/(ctR h c G p).2.2=12
theorem A13{h:HouseR}{c:SheetR}{G:List Int}{l:List (ByteArray×ByteArray)}{p:ByteArray×ByteArray}(e:(ctR h c G p).2.2=0):Ci h c G (l++[p])=Ci h c G l++[⟨p.1,p.2,(ctR h c G p).1,(ctR h c G p).2.1⟩]:=by
 unfold Ci
 rw[b1w]
 congr 1
 simp[U2,e]
theorem A4u{h:HouseR}{c:SheetR}{G:List Int}{l:List (ByteArray×ByteArray)}{p:ByteArray×ByteArray}(e:¬(ctR h c G p).2.2=0):Ci h c G (l++[p])=Ci h c G l:=by
 unfold Ci
 rw[b1w]
 have:List.filterMap (U2 h c G) [p]=[]:=by simp[U2,e]
 rw[this,a1u]
theorem U1(h:HouseR)(c:SheetR)(G:List Int)(l:List (ByteArray×ByteArray)):(Ci h c G l).length<=l.length:=List.length_filterMap_le _ _
theorem mem_innN{l:List SetR}{k:Nat}{a:SetR}{x:ByteArray×ByteArray}:∀{m:Nat},x∈Aq l k a m↔∃j,j<m/\∃b,l[k+1+j]?=some b/\Cu a b/\x=(a.name,b.name)
 |0=>by simp[Aq]
 |m+1=>by
  rw[Aq,a0p,mem_innN]
  constructor
  ·rintro(⟨j,h1,h2⟩|h)
   ·exact⟨j,by omega,h2⟩
   ·split at h
    ·rename_i b hb
     split at h
     ·rename_i hn
      exact⟨m,by omega,b,hb,hn,a2s.1 h⟩
     ·cases h
    ·cases h
  ·rintro⟨j,h1,b,hb,hn,hx⟩
   by_cases e:j=m
   ·subst e
    refine .inr ?_
    rw[hb]
    simp only[hn,if_true]
    exact a2s.2 hx
   ·exact .inl ⟨j,by omega,b,hb,hn,hx⟩
theorem mem_prsK{l:List SetR}{x:ByteArray×ByteArray}:∀{n:Nat},x∈D1 l n↔∃k,k<n/\∃a,l[k]?=some a/\x∈Aq l k a (l.length-(k+1))
 |0=>by simp[D1]
 |n+1=>by
  rw[D1,a0p,mem_prsK]
  constructor
  ·rintro(⟨k,h1,h2⟩|h)
   ·exact⟨k,by omega,h2⟩
   ·split at h
    ·rename_i a ha
     exact⟨n,by omega,a,ha,h⟩
    ·cases h
  ·rintro⟨k,h1,a,ha,hx⟩
   by_cases e:k=n
   ·subst e
    refine .inr ?_
    rw[ha]
    exact hx
   ·exact .inl ⟨k,by omega,a,ha,hx⟩
theorem A23{l:List SetR}(hn:(l.map SetR.name).Nodup){i j:Nat}{x y:SetR}(hx:l[i]?=some x)(hy:l[j]?=some y)(e:x.name=y.name):i=j:=by
 rcases Nat.lt_trichotomy i j with h|h|h
 ·exact absurd e (Mg hn hx hy h)
 ·exact h
 ·exact absurd e.symm (Mg hn hy hx h)
theorem Aci(s:SetR)(n:ByteArray):Fz 89 [A0 s.row,.rop [.s n]] (.b (decide (s.name=n))):=by
 refine Fo Tryz.func89 ?_
 repeat' first|refine WX ?_|refine W2 ?_ ?_<;>intro hc
 all_goals exact Dd rfl rfl (by rfl)
noncomputable def Pa(h:HouseR)(c:SheetR)(G:List Int)(n:ByteArray):List PcQ:=if Bt h c G n=0 then Br h c G n else[]
theorem A3e(h:HouseR)(c:SheetR)(hf:h.fits)(hc:c.fits)(G:List Int)(hG:G.length<=4611686018427387904)(e0:alE h c G=0)(n:ByteArray)(hn:¬Aa h n<0):Fz 49 [A0 h.row,A0 c.row,.sl (G.map A1),.s n] (.tup [.sl ((Pa h c G n).map PcQ.row),.i (Bt h c G n)]):=by
 have cm:=Lz h c hf hc G hG
 obtain⟨p,er⟩:=Hb e0
 rw[e0,er]at cm
 have hs:Fz 88 [.sl (h.sets.map SetR.row),.fn (.func 89) [] [.rop [.s n]]] (.i (Aa h n)):=
  Mb h.sets SetR.row (fun s=>s.name=n) _ _ (fun _=>rfl) hf.1 rfl fun s _=>Aci s n
 obtain⟨s,hsi⟩:=Iu hn
 have hz:Aa h n=((L5 h n:Nat):Int):=by unfold L5;omega
 have hset:Io h n=some s:=hsi
 have hsk:h.sets[L5 h n]?=some s:=hsi
 have co:=A4k c (trL h c) (stL h c G) (B0 h c) (E6 h c G) (Ce h c _) (by have:=p.v.2.1;omega) hc.2.2 p.st p.ln
 have cp:=Afe h c G p hc hsk
 unfold plA at co cp
 rw[hz]at hs
 unfold Pa Br Bt
 rw[hset]
 dsimp only
 generalize L5 h n=k at*
 have hk0:¬(k:Int)<0:=by omega
 by_cases ho:Jg c (stL h c G) (B0 h c)
 ·rw[decide_eq_true ho]at co
  simp only[ho,if_true]
  change Fn0 _ _ _ (.tup [.sl ((if Fp h c (stL h c G) k s=0 then Ik h c (stL h c G) k s else[]).map PcQ.row),_])at cp
  generalize(if Fp h c (stL h c G) k s=0 then Ik h c (stL h c G) k s else[])=O at*
  generalize Fp h c (stL h c G) k s=e at*
  generalize stL h c G=u1 at*
  generalize B0 h c=u2 at*
  generalize trL h c=u3 at*
  refine Fo Tryz.func49 ?_
  repeat' first|refine W ?_|(apply S.callV;exact rfl;exact hs;exact .cons (.one (.lf _)) (.cons (.fn (.cons (.ptr0 (cs:=[.s n]) rfl) .nil)) .nil);exact rfl;exact rfl)|refine Y ?_|refine Da ?_|refine V ?_|refine W2 ?_ ?_<;>intro hc
  all_goals exact D2 rfl rfl rfl
 ·rw[decide_eq_false ho]at co
  simp only[ho,if_false]
  rw[if_neg (show ¬(13:Int)=0 by decide)]
  generalize stL h c G=u1 at*
  generalize B0 h c=u2 at*
  generalize trL h c=u3 at*
  refine Fo Tryz.func49 ?_
  repeat' first|refine W ?_|(apply S.callV;exact rfl;exact hs;exact .cons (.one (.lf _)) (.cons (.fn (.cons (.ptr0 (cs:=[.s n]) rfl) .nil)) .nil);exact rfl;exact rfl)|refine Y ?_|refine Da ?_|refine Zbn ?_|refine V ?_|refine W2 ?_ ?_<;>intro hc
  all_goals exact D2 rfl rfl rfl
theorem Vq(h:HouseR)(hf:h.fits)(hp:Bv h)(n:ByteArray)(hn:¬Aa h n<0):Fz 48 [A0 h.row,.s n] (.tup [.i (Aa h n),.i 0]):=by
 have hv:=Kj h hf
 rw[decide_eq_true hp]at hv
 have cf:=Vr h n hf.1
 generalize Aa h n=i at*
 refine Fo Tryz.func48 ?_
 repeat' first|refine WX ?_|refine W2 ?_ ?_<;>intro hc
 all_goals exact D2 rfl rfl rfl
def unQ(p:PcQ):PieceR:=⟨p.f.num,p.f.den,p.a.num,p.a.den,p.b.num,p.b.den,p.c.num,p.c.den⟩
theorem Ahf(x:List PcQ):(x.map unQ).map PieceR.row=x.map PcQ.row:=by rw[a7y];rfl
theorem Ahc(p:PcQ):toQ (unQ p)=p:=by
 unfold toQ unQ A4
 simp only[a7z]
theorem A00{x:List PcQ}(h:¬Ag x)(hn:x.length<=1000000):Fz 93 [.sl (x.map PcQ.row)] (.b false):=by
 have:=Z8 (x.map unQ) (by rw[a0e];exact hn)
 rw[Ahf,decide_eq_false (fun k=>h (by have:=(A9l k).2.2.2;rwa[a7y,show toQ ∘unQ=id from funext Ahc,List.map_id]at this))]at this
 exact this
structure TwoP(a b:SetR)(x y:List PcQ):Prop where
 pa:Cb a
 pb:Cb b
 fa:a.fits
 fb:b.fits
 ox:okC x
 oy:okC y
 x0:x≠[]
 y0:y≠[]
 nx:x.length<=200
 ny:y.length<=200
theorem A04(a b:SetR)(x y:List PcQ)(h:TwoP a b x y)(t:List Lf)(ht:t.length=2)(hs:¬(Ag x/\Ag y)):Fz 50 [A0 a.row,A0 b.row,.sl (x.map PcQ.row),.sl (y.map PcQ.row),A0 t] (.i 1):=by
 have va:=Gv a h.fa
 have vb:=Gv b h.fb
 rw[decide_eq_true h.pa]at va
 rw[decide_eq_true h.pb]at vb
 match t,ht with
 |[u,v],_=>
 by_cases sx:Ag x
 ·have vx:=Lk x h.ox sx (a1i.2 h.x0) h.nx
  have vy:=A00 (fun k=>hs ⟨sx,k⟩) (by have:=h.ny;omega)
  refine Fo b3g ?_
  repeat' first|refine WX ?_|refine W2 ?_ ?_<;>intro hc
  all_goals exact Dd rfl rfl rfl
 ·have vx:=A00 sx (by have:=h.nx;omega)
  refine Fo b3g ?_
  repeat' first|refine WX ?_|refine W2 ?_ ?_<;>intro hc
  all_goals exact Dd rfl rfl rfl
theorem A77(a b:SetR)(x y:List PcQ)(h:TwoP a b x y)(te:Rat)(ht:Fits te)(h0:0<=te)(h1:te<=1099511627776):
  Fz 23 [A0 a.row,A0 b.row,.sl (x.map PcQ.row),.sl (y.map PcQ.row),A0 (frR te)] (.tup [A0 [.i (frT a b x y te).1,.i (frT a b x y te).2.1],.i (frT a b x y te).2.2]):=by
 by_cases hs:Ag x/\Ag y
 ·have:=A99 a b x y ⟨h.pa,h.pb,h.fa,h.fb,h.ox,h.oy,h.x0,h.y0,hs.1,hs.2,h.nx,h.ny⟩ te ht h0 h1
  rw[A54]at this
  unfold frT
  rw[if_pos hs]
  exact this
 ·have cg:=A04 a b x y h (frR te) rfl hs
  unfold frT
  rw[if_neg hs]
  refine Fo a7v ?_
  repeat' first|refine WX ?_|refine W2 ?_ ?_<;>intro hc
  all_goals exact D3 rfl rfl rfl rfl rfl rfl rfl
def ltC(x m:ConR):Prop:=x.lo<m.lo\/x.lo=m.lo/\x.hi<m.hi
instance (x m:ConR):Decidable (ltC x m):=by unfold ltC;exact inferInstance
def Uf(m x:ConR):ConR:=if ltC x m then x else m
def mnL:List ConR->ConR
 |[]=>⟨⟨#[]⟩,⟨#[]⟩,0,0⟩
 |x::xs=>xs.foldl Uf x
set_option maxRecDepth 100000 in
theorem A9c:∃n1 n2 n3:Nat,Tryz.prog.fieldsOf 40= #[⟨"First",9,0,false, "", "",n1⟩,⟨"Second",9,1,false, "", "",n2⟩,⟨"At",38,2,false, "", "",n3⟩]:=by
 unfold Program.fieldsOf
 rw[a8h]
 exact⟨_,_,_,rfl⟩
theorem Acy:Tryz.prog.stoodInHeld 40=false:=by kernel_rfl
theorem A12:Tryz.prog.eqGuardType Tryz.prog.depth 40=false:=by kernel_rfl
theorem Aiu:Tryz.prog.underlying 40=some (.struct (Tryz.prog.fieldsOf 40)):=by
 unfold Program.fieldsOf
 rw[a8h]
def Oo(a b:ByteArray)(u v:Int):Value:=.agg #[.string a,.string b,.int .i64 u,.int .i64 v]
def eqC(a b:ByteArray)(u v:Int)(a' b':ByteArray)(u' v':Int):Prop:=a=a'/\b=b'/\u=u'/\v=v'
instance (a b:ByteArray)(u v:Int)(a' b':ByteArray)(u' v':Int):Decidable (eqC a b u v a' b' u' v'):=by unfold eqC;exact inferInstance
set_option maxRecDepth 100000 in
theorem Yd(w:World)(d:Nat)(a b:ByteArray)(u v:Int)(a' b':ByteArray)(u' v':Int):(Op.equalIn (d+3) 40 (Oo a b u v) (Oo a' b' u' v')).run Tryz.prog w=.ok (decide (eqC a b u v a' b' u' v')) w:=by
 obtain⟨n1,n2,n3,hcf⟩:=A9c
 have h1:=fun d' (k:IntKind)(a b:Int)=>run_equalIn_int (P:=Tryz.prog) w d' 3 k .i64 a b a1w
 have h2:=run_equalIn_struct (P:=Tryz.prog) w (d+2) 40 #[.string a,.string b,.int .i64 u,.int .i64 v] #[.string a',.string b',.int .i64 u',.int .i64 v'] Aiu Acy
 have h5:=fun d' (x y:ByteArray)=>run_equalIn_string (P:=Tryz.prog) w d' 9 x y b0m
 have h6:=fun d'=>run_equalIn_struct (P:=Tryz.prog) w d' 38 #[.int .i64 u,.int .i64 v] #[.int .i64 u',.int .i64 v'] Ac7 Ac8
 rw[hcf]at h2
 rw[Ww]at h6
 unfold Oo
 rw[h2]
 simp[Op.eqFields,go_sem,h1,h5,h6,O8,Ac7]
 unfold eqC
 by_cases e1:a=a'<;>by_cases e2:b=b'<;>by_cases e3:u=u'<;>by_cases e4:v=v'<;>simp[*]
section
variable {N:Nat}{ops:Array Oper}{m:Option Nat}{K:Tm->AH->Prop}{tm:Tm}{H:AH}{rest:List Oper}{ty:TypeId}{pos:String}{af:Array Edge}{d:Nat}{x y:Operand}
theorem p4c{t u':TypeId}{a b a' b':ByteArray}{u v w z:Int}(ht:t=40)(hx:evT tm x=some (.agg [.val (.string a),.val (.string b),.val (.int .i64 u),.val (.int .i64 v)]))(hy:evT tm y=some (.agg [.val (.string a'),.val (.string b'),.val (.int .i64 w),.val (.int .i64 z)]))(hN:LN d N)(h:Reg m Tryz.prog N ops rest ((d,.val (.bool (decide (eqC a b u v a' b' w z))))::tm) H K):Reg m Tryz.prog N ops (⟨some d,.binOp .eql t x y u',ty,pos,af,none⟩::rest) tm H K:=by
 subst ht
 refine S.val (OpV.mk fun L w' ρ η hη hH=>?_) hN h
 have h1:=(hη x (by simp[Op.operands]) _ hx).flat (u:=Oo a b u v) rfl
 have h2:=(hη y (by simp[Op.operands]) _ hy).flat (u:=Oo a' b' w z) rfl
 refine⟨_,?_,Ab _⟩
 have h3:=run_eqGuard_agg (P:=Tryz.prog) w' .eql 40 x y #[.string a,.string b,.int .i64 u,.int .i64 v] #[.string a',.string b',.int .i64 w,.int .i64 z] A12
 have h4:=run_eql_struct (P:=Tryz.prog) w' 40 #[.string a,.string b,.int .i64 u,.int .i64 v] #[.string a',.string b',.int .i64 w,.int .i64 z]
 have h5:=Yd w' 9997 a b u v a' b' w z
 unfold Oo at h1 h2 h5
 simp only[execOp,h1,h2,a0t,h3,a0o,h4]
 rw[h5]
 rfl
theorem p4e{t u':TypeId}{a b a' b':ByteArray}{u v w z:Int}(ht:t=40)(hx:evT tm x=some (.agg [.val (.string a),.val (.string b),.val (.int .i64 u),.val (.int .i64 v)]))(hy:evT tm y=some (.agg [.val (.string a'),.val (.string b'),.val (.int .i64 w),.val (.int .i64 z)]))(hN:LN d N)(h:Reg m Tryz.prog N ops rest ((d,.val (.bool (decide (¬eqC a b u v a' b' w z))))::tm) H K):Reg m Tryz.prog N ops (⟨some d,.binOp .neq t x y u',ty,pos,af,none⟩::rest) tm H K:=by
 subst ht
 refine S.val (OpV.mk fun L w' ρ η hη hH=>?_) hN h
 have h1:=(hη x (by simp[Op.operands]) _ hx).flat (u:=Oo a b u v) rfl
 have h2:=(hη y (by simp[Op.operands]) _ hy).flat (u:=Oo a' b' w z) rfl
 refine⟨_,?_,Ab _⟩
 have h3:=run_eqGuard_agg (P:=Tryz.prog) w' .neq 40 x y #[.string a,.string b,.int .i64 u,.int .i64 v] #[.string a',.string b',.int .i64 w,.int .i64 z] A12
 have h4:=run_neq_struct (P:=Tryz.prog) w' 40 #[.string a,.string b,.int .i64 u,.int .i64 v] #[.string a',.string b',.int .i64 w,.int .i64 z]
 have h5:=Yd w' 9997 a b u v a' b' w z
 unfold Oo at h1 h2 h5
 simp only[execOp,h1,h2,a0t,h3,a0o,h4]
 rw[h5]
 simp[go_sem]
end
end Go.Proofs.YtcaicpnepfjcmaaGreat
