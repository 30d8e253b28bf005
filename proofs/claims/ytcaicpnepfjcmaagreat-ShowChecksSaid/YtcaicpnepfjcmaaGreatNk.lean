/- Lemmas of the proof. -/
import Derived.Test.YtcaicpnepfjcmaaGreatPl
set_option linter.all false
set_option maxHeartbeats 64000000
namespace Go.Proofs.YtcaicpnepfjcmaaGreat
open Go Go.RowKit
def a8u:= @Tryz.func166
def a9y:= @Tryz.func120
def a9z:= @Tryz.func122
def b0c:= @Tryz.func268
def b0d:= @Tryz.func296
def b2x:= @List.map_congr_left
theorem Oe{l:List PcQ}{t:Rat}(hl:okC l)(h0:l≠[]):Fits (atQ l t):=by
 unfold atQ
 split
 ·have h:l[0]?=some (l[0]'(a1i.2 h0)):=a0b _
  rw[Bs h]
  exact(hl _ (a0a h)).a
 ·exact Dj _
theorem Z9(n d:Int):Fz 121 [A0 [.i n,.i d]] (.b (decide (vF n d))):=by
 rw[show decide (vF n d)=Dq n d by unfold vF;exact b2p]
 exact Ael n d
abbrev Sf(p:Int×Int):List Lf:=[.i p.1,.i p.2]
theorem Ags(l:List (Int×Int))(hn:l.length<=1000000):Fz 206 [.sl (l.map Sf)] (.b (decide (∀p∈l,vF p.1 p.2))):=by
 have hle:=lmA l Sf
 refine Fo Tryz.func206 ?_
 repeat' first|refine WX ?_|refine W2 ?_ ?_<;>intro hc
 refine p0c (fun k=>k<=l.length/\∀p∈l.take k,vF p.1 p.2) (fun k=>l.length-k) (fun k=>[(3,.i (k:Int)),(0,.sl (l.map Sf))]) (fun _=>[]) 0 ⟨a0k _,by simp⟩ CV .nil ?_
 rintro k ⟨hk,hp⟩
 by_cases hlt:k<l.length
 ·have h1:(k:Int)<((l.map Sf).length:Nat):=by omega
  obtain⟨x,hx⟩:=A2 hlt
  have hb:=A3 (R:=Sf) hx
  have c:=Z9 x.1 x.2
  by_cases hv:vF x.1 x.2
  ·have hv':¬¬vF x.1 x.2:=fun h=>h hv
   repeat' first|refine WY ?_|refine Zb5 ?_|refine V ?_|refine W2 ?_ ?_<;>intro hc
   refine Next.go (k+1) ⟨by omega,fun p hm=>?_⟩ (by omega) CV .nil
   rw[a0u,hx]at hm
   rcases a0p.1 hm with hm|hm
   ·exact hp p hm
   ·obtain rfl:p=x:=by simpa using hm
    exact hv
  ·skip
   repeat' first|refine WY ?_|refine Zb5 ?_|refine V ?_|refine W2 ?_ ?_<;>intro hc
   exact Dd rfl rfl (congrArg Value.bool (decide_eq_false fun h=>hv (h x (a0a hx))).symm)
 ·have h1:¬(k:Int)<((l.map Sf).length:Nat):=by omega
  repeat' first|refine WX ?_|refine W2 ?_ ?_<;>intro hc
  exact Dd rfl rfl (congrArg Value.bool (decide_eq_true (by rw[a0g (by omega)]at hp;exact hp)).symm)
theorem Aez(l:List PieceR)(hn:l.length<=1000000):Fz 120 [.sl (l.map PieceR.row)] (.b (decide (J9 l))):=by
 have hle:=lmA l PieceR.row
 by_cases h1:(((l.map PieceR.row).length:Nat):Int)<1
 ·skip
  refine Fo a9y ?_
  repeat' first|refine WX ?_|refine W2 ?_ ?_<;>intro hc
  exact Dd rfl rfl (congrArg Value.bool (decide_eq_false fun h=>by have:=h.1.1;omega).symm)
 by_cases h2:200<(((l.map PieceR.row).length:Nat):Int)
 ·skip
  refine Fo a9y ?_
  repeat' first|refine WX ?_|refine W2 ?_ ?_<;>intro hc
  exact Dd rfl rfl (congrArg Value.bool (decide_eq_false fun h=>by have:=h.1.2;omega).symm)
 refine Fo a9y ?_
 repeat' first|refine WX ?_|refine W2 ?_ ?_<;>intro hc
 refine p0c (fun k=>k<=l.length/\(∀p∈l.take k,pieceP p)/\∀i,i+1<k->Lg l i<Lg l (i+1)) (fun k=>l.length-k) (fun k=>[(3,.i (k:Int)),(0,.sl (l.map PieceR.row))]) (fun k=>[]) 0 ⟨a0k _,by simp,fun i hi=>by omega⟩ CV .nil ?_
 rintro k ⟨hk,hp,hs⟩
 by_cases hlt:k<l.length
 ·have h3:(k:Int)<((l.map PieceR.row).length:Nat):=by omega
  obtain⟨x,hx⟩:=A2 hlt
  have hb:=A3 (R:=PieceR.row) hx
  have hmem:=a0a hx
  have v1:Fz 206 [.sl [[.i x.f1,.i x.f2],[.i x.a1,.i x.a2],[.i x.b1,.i x.b2],[.i x.c1,.i x.c2]]] (.b (decide (pieceP x))):=by
   have:=Ags [(x.f1,x.f2),(x.a1,x.a2),(x.b1,x.b2),(x.c1,x.c2)] (by simp)
   rw[show(decide (∀p∈[(x.f1,x.f2),(x.a1,x.a2),(x.b1,x.b2),(x.c1,x.c2)],vF p.1 p.2))=decide (pieceP x)from decide_eq_decide.2 (by
    constructor
    ·intro h
     exact⟨h (x.f1,x.f2) (by simp),h (x.a1,x.a2) (by simp),h (x.b1,x.b2) (by simp),h (x.c1,x.c2) (by simp)⟩
    ·intro h p hm
     simp only[a1q,a2t,or_false]at hm
     rcases hm with rfl|rfl|rfl|rfl
     ·exact h.f
     ·exact h.a
     ·exact h.b
     ·exact h.c)]at this
   exact this
  by_cases hpx:pieceP x
  ·have hp':∀p∈l.take (k+1),pieceP p:=by
    intro p hm
    rw[a0u,hx]at hm
    rcases a0p.1 hm with hm|hm
    ·exact hp p hm
    ·obtain rfl:p=x:=by simpa using hm
     exact hpx
   have n1:¬¬pieceP x:=fun h=>h hpx
   cases k with
   |zero=>
    have h5:¬(0:Int)<((0:Nat):Int):=by omega
    repeat' first|refine WY ?_|refine Zb4 ?_|refine Da ?_|refine Dv 42 ?_|refine V ?_|refine W2 ?_ ?_<;>intro hc
    exact Next.go 1 ⟨by omega,hp',fun i hi=>by omega⟩ (by omega) CV .nil
   |succ k=>
    have h5:(0:Int)<((k+1:Nat):Int):=by omega
    obtain⟨y,hy⟩:=A1g hlt
    have hpy:pieceP y:=hp y (a0a (by rw[a1o (a3n k)];exact hy))
    have hby:(l.map PieceR.row)[(((k+1:Nat):Int)-1).toNat]?=some y.row:=by rw[show(((k+1:Nat):Int)-1).toNat=k by omega,a0d,hy];rfl
    have hcmp:Fz 43 [A0 [.i y.f1,.i y.f2],A0 [.i x.f1,.i x.f2]] (.i (Ay (toQ y).f (toQ x).f)):=by
     have:=Fs (toQ y).f (toQ x).f hpy.ok.1.f hpx.ok.1.f
     obtain⟨_,e1,e2⟩:=Hy hpy.f
     obtain⟨_,e3,e4⟩:=Hy hpx.f
     simp only[toQ,frR,e1,e2,e3,e4]at this⊢
     exact this
    by_cases hc:(toQ y).f<(toQ x).f
    ·have hc':¬0<=Ay (toQ y).f (toQ x).f:=fun e=>by have:=(Dr _ _).2 hc;omega
     repeat' first|refine WY ?_|refine Zb4 ?_|refine Da ?_|refine Dv 42 ?_|refine V ?_|refine W2 ?_ ?_<;>intro hc
     refine Next.go (k+2) ⟨by omega,hp',fun i hi=>?_⟩ (by omega) CV .nil
     by_cases hik:i=k
     ·subst hik
      rw[Ek hy,Ek hx];exact hc
     ·exact hs i (by omega)
    ·have hc':0<=Ay (toQ y).f (toQ x).f:=by
      rcases a5q (Ay (toQ y).f (toQ x).f) 0 with h|h
      ·exact absurd ((Dr _ _).1 h) hc
      ·exact h
     repeat' first|refine WY ?_|refine Zb4 ?_|refine Da ?_|refine Dv 42 ?_|refine V ?_|refine W2 ?_ ?_<;>intro hc
     exact Dd rfl rfl (congrArg Value.bool (decide_eq_false fun h=>hc (by have:=h.2.2 k (by omega);rwa[Ek hy,Ek hx]at this)).symm)
  ·skip
   repeat' first|refine WY ?_|refine Zb4 ?_|refine Da ?_|refine Dv 42 ?_|refine V ?_|refine W2 ?_ ?_<;>intro hc
   exact Dd rfl rfl (congrArg Value.bool (decide_eq_false fun h=>hpx (h.2.1 x hmem)).symm)
 ·have h3:¬(k:Int)<((l.map PieceR.row).length:Nat):=by omega
  repeat' first|refine WX ?_|refine W2 ?_ ?_<;>intro hc
  exact Dd rfl rfl (congrArg Value.bool (decide_eq_true ⟨⟨by omega,by omega⟩,by rw[a0g (by omega)]at hp;exact hp,fun i hi=>hs i (by omega)⟩).symm)
/-! ### Pieces, values -/
def rpN(l:List PcQ)(t:Rat):Nat->Nat
 |0=>0
 |k+1=>if rpN l t k=k/\(A6 l k).f<=t then k+1 else rpN l t k
def rpI(l:List PcQ)(t:Rat):Int:=(rpN l t l.length:Int)-1
theorem A2x(l:List PcQ)(t:Rat):∀k,rpN l t k<=k
 |0=>a0n _
 |k+1=>by
  have:=A2x l t k
  rw[rpN]
  split<;>omega
theorem Aew{l:List PcQ}{t:Rat}{k:Nat}(h:rpN l t k=k)(hc:¬(A6 l k).f<=t):∀n,k<=n->rpN l t n=k:=by
 intro n hn
 induction n with
 |zero=>
  obtain rfl:k=0:=by omega
  exact h
 |succ n ih=>
  by_cases e:k=n+1
  ·subst e;exact h
  ·rw[rpN,ih (by omega)]
   by_cases e2:k=n
   ·subst e2;rw[if_neg fun h=>hc h.2]
   ·rw[if_neg fun h=>e2 h.1]
theorem Mo(l:List PcQ)(t:Rat)(hl:okC l)(hn:l.length<=1000)(ht:Fits t):Fz 123 [.sl (l.map PcQ.row),A0 (frR t)] (.i (rpI l t)):=by
 have hle:=lmA l PcQ.row
 refine Fo Tryz.func123 ?_
 repeat' first|refine WX ?_|refine W2 ?_ ?_<;>intro hc
 refine p0c (fun k=>k<=l.length/\rpN l t k=k) (fun k=>l.length-k) (fun k=>[(5,.i ((k:Int)-1)),(0,.sl (l.map PcQ.row)),(3,.ptr 0 0)]) (fun _=>[.live ((frR t).map .lf)]) 0 ⟨a0k _,rfl⟩ CV (.live rfl .nil) ?_
 rintro k ⟨hk,hv⟩
 by_cases hlt:k<l.length
 ·have h1:(k:Int)-1+1<((l.map PcQ.row).length:Nat):=by omega
  obtain⟨x,hx⟩:=A2 hlt
  have hb:(l.map PcQ.row)[((k:Int)-1+1).toNat]?=some x.row:=by rw[show((k:Int)-1+1).toNat=k by omega,a0d,hx];rfl
  have hok:=hl x (a0a hx)
  have c:=Fs x.f t hok.f ht
  by_cases hc:x.f<=t
  ·have hc':Ay x.f t<=0:=(Lr _ _).2 hc
   repeat' first|refine WY ?_|refine Da ?_|refine Dv 16 ?_|refine V ?_|refine W2 ?_ ?_<;>intro hc
   exact Next.go (k+1) ⟨by omega,by rw[rpN,if_pos ⟨hv,by rw[Bs hx];exact hc⟩]⟩ (by omega) (.cons (by rw[show(((k+1:Nat):Int))-1=(k:Int)-1+1 by omega];rfl) rfl CV) (.live rfl .nil)
  ·have hc':¬Ay x.f t<=0:=fun e=>hc ((Lr _ _).1 e)
   repeat' first|refine WY ?_|refine Da ?_|refine Dv 16 ?_|refine V ?_|refine W2 ?_ ?_<;>intro hc
   exact Dd rfl rfl (by rw[rpI,Aew hv (by rw[Bs hx];exact hc) _ hk])
 ·have h1:¬(k:Int)-1+1<((l.map PcQ.row).length:Nat):=by omega
  obtain rfl:k=l.length:=by omega
  repeat' first|refine WY ?_|refine Da ?_|refine Dv 16 ?_|refine V ?_|refine W2 ?_ ?_<;>intro hc
  exact Dd rfl rfl (by rw[rpI,hv])
def E8(ok:Prop)[Decidable ok](q:Rat):AV:=if ok then frE q 0 else big
def okV(p:PcQ)(u:Rat):Prop:=Fits (p.c*u)/\Fits (p.b+p.c*u)/\Fits ((p.b+p.c*u)*u)/\Fits (p.a+(p.b+p.c*u)*u)
instance (p:PcQ)(u:Rat):Decidable (okV p u):=by unfold okV;exact inferInstance
def Ed(p:PcQ)(u:Rat):Rat:=p.a+(p.b+p.c*u)*u
def okS(p:PcQ)(u:Rat):Prop:=Fits (p.c*u)/\Fits (2*(p.c*u))/\Fits (p.b+2*(p.c*u))
instance (p:PcQ)(u:Rat):Decidable (okS p u):=by unfold okS;exact inferInstance
def H9(p:PcQ)(u:Rat):Rat:=p.b+2*(p.c*u)
theorem Af0(p:PcQ)(u:Rat)(hp:p.ok)(hu:Fits u):Fz 166 [A0 p.row,A0 (frR u)] (E8 (okV p u) (Ed p u)):=by
 have c1:=Kv p.c u hp.c hu
 unfold Bg at c1
 by_cases h1:Fits (p.c*u)
 ·rw[if_pos h1]at c1
  have c2:=K3 p.b (p.c*u) hp.b h1
  unfold Bg at c2
  by_cases h2:Fits (p.b+p.c*u)
  ·rw[if_pos h2]at c2
   have c3:=Kv (p.b+p.c*u) u h2 hu
   unfold Bg at c3
   by_cases h3:Fits ((p.b+p.c*u)*u)
   ·rw[if_pos h3]at c3
    have c4:=K3 p.a ((p.b+p.c*u)*u) hp.a h3
    unfold Bg at c4
    by_cases h4:Fits (p.a+(p.b+p.c*u)*u)
    ·rw[if_pos h4]at c4
     rw[show E8 (okV p u) (Ed p u)=frE (Ed p u) 0 from if_pos ⟨h1,h2,h3,h4⟩]
     refine Fo a8u ?_
     repeat' first|refine WY ?_|(apply p0v A8)|refine Zbc ?_|(apply Ords.one (i:=0);decide+kernel;exact rfl)|(apply Ords.one (i:=1);decide+kernel;exact rfl)|(apply Ords.one (i:=2);decide+kernel;exact rfl)|(apply Ords.one (i:=3);decide+kernel;exact rfl)|(apply Ords.one (i:=4);decide+kernel;exact rfl)|(apply Ords.one (i:=5);decide+kernel;exact rfl)|(apply Ords.one (i:=6);decide+kernel;exact rfl)|(apply Ords.one (i:=7);decide+kernel;exact rfl)|(apply Ords.one (i:=8);decide+kernel;exact rfl)|(apply Ords.one (i:=9);decide+kernel;exact rfl)|(apply p0a (i:=0) (j:=1);decide+kernel;exact rfl;exact rfl)|(apply p0a (i:=0) (j:=2);decide+kernel;exact rfl;exact rfl)|(apply p0a (i:=0) (j:=3);decide+kernel;exact rfl;exact rfl)|(apply p0a (i:=0) (j:=4);decide+kernel;exact rfl;exact rfl)|(apply p0a (i:=1) (j:=5);decide+kernel;exact rfl;exact rfl)|(apply p0a (i:=2) (j:=5);decide+kernel;exact rfl;exact rfl)|(apply p0a (i:=3) (j:=5);decide+kernel;exact rfl;exact rfl)|(apply p0a (i:=4) (j:=5);decide+kernel;exact rfl;exact rfl)|(apply p0a (i:=5) (j:=6);decide+kernel;exact rfl;exact rfl)|(apply p0a (i:=4) (j:=6);decide+kernel;exact rfl;exact rfl)|(apply p0a (i:=6) (j:=7);decide+kernel;exact rfl;exact rfl)|(apply p0a (i:=5) (j:=7);decide+kernel;exact rfl;exact rfl)|refine V ?_|refine W2 ?_ ?_<;>intro hc
     all_goals exact D3 rfl rfl rfl rfl rfl rfl rfl
    ·rw[if_neg h4]at c4
     rw[show E8 (okV p u) (Ed p u)=big from if_neg fun h=>h4 h.2.2.2]
     refine Fo a8u ?_
     repeat' first|refine WY ?_|(apply p0v A8)|refine Zbc ?_|(apply Ords.one (i:=0);decide+kernel;exact rfl)|(apply Ords.one (i:=1);decide+kernel;exact rfl)|(apply Ords.one (i:=2);decide+kernel;exact rfl)|(apply Ords.one (i:=3);decide+kernel;exact rfl)|(apply Ords.one (i:=4);decide+kernel;exact rfl)|(apply Ords.one (i:=5);decide+kernel;exact rfl)|(apply Ords.one (i:=6);decide+kernel;exact rfl)|(apply Ords.one (i:=7);decide+kernel;exact rfl)|(apply Ords.one (i:=8);decide+kernel;exact rfl)|(apply Ords.one (i:=9);decide+kernel;exact rfl)|(apply p0a (i:=0) (j:=1);decide+kernel;exact rfl;exact rfl)|(apply p0a (i:=0) (j:=2);decide+kernel;exact rfl;exact rfl)|(apply p0a (i:=0) (j:=3);decide+kernel;exact rfl;exact rfl)|(apply p0a (i:=0) (j:=4);decide+kernel;exact rfl;exact rfl)|(apply p0a (i:=1) (j:=5);decide+kernel;exact rfl;exact rfl)|(apply p0a (i:=2) (j:=5);decide+kernel;exact rfl;exact rfl)|(apply p0a (i:=3) (j:=5);decide+kernel;exact rfl;exact rfl)|(apply p0a (i:=4) (j:=5);decide+kernel;exact rfl;exact rfl)|(apply p0a (i:=5) (j:=6);decide+kernel;exact rfl;exact rfl)|(apply p0a (i:=4) (j:=6);decide+kernel;exact rfl;exact rfl)|(apply p0a (i:=6) (j:=7);decide+kernel;exact rfl;exact rfl)|(apply p0a (i:=5) (j:=7);decide+kernel;exact rfl;exact rfl)|refine V ?_|refine W2 ?_ ?_<;>intro hc
     all_goals exact D3 rfl rfl rfl rfl rfl rfl rfl
   ·rw[if_neg h3]at c3
    have c4:=c3
    rw[show E8 (okV p u) (Ed p u)=big from if_neg fun h=>h3 h.2.2.1]
    refine Fo a8u ?_
    repeat' first|refine WY ?_|(apply p0v A8)|refine Zbc ?_|(apply Ords.one (i:=0);decide+kernel;exact rfl)|(apply Ords.one (i:=1);decide+kernel;exact rfl)|(apply Ords.one (i:=2);decide+kernel;exact rfl)|(apply Ords.one (i:=3);decide+kernel;exact rfl)|(apply Ords.one (i:=4);decide+kernel;exact rfl)|(apply Ords.one (i:=5);decide+kernel;exact rfl)|(apply Ords.one (i:=6);decide+kernel;exact rfl)|(apply Ords.one (i:=7);decide+kernel;exact rfl)|(apply Ords.one (i:=8);decide+kernel;exact rfl)|(apply Ords.one (i:=9);decide+kernel;exact rfl)|(apply p0a (i:=0) (j:=1);decide+kernel;exact rfl;exact rfl)|(apply p0a (i:=0) (j:=2);decide+kernel;exact rfl;exact rfl)|(apply p0a (i:=0) (j:=3);decide+kernel;exact rfl;exact rfl)|(apply p0a (i:=0) (j:=4);decide+kernel;exact rfl;exact rfl)|(apply p0a (i:=1) (j:=5);decide+kernel;exact rfl;exact rfl)|(apply p0a (i:=2) (j:=5);decide+kernel;exact rfl;exact rfl)|(apply p0a (i:=3) (j:=5);decide+kernel;exact rfl;exact rfl)|(apply p0a (i:=4) (j:=5);decide+kernel;exact rfl;exact rfl)|(apply p0a (i:=5) (j:=6);decide+kernel;exact rfl;exact rfl)|(apply p0a (i:=4) (j:=6);decide+kernel;exact rfl;exact rfl)|(apply p0a (i:=6) (j:=7);decide+kernel;exact rfl;exact rfl)|(apply p0a (i:=5) (j:=7);decide+kernel;exact rfl;exact rfl)|refine V ?_|refine W2 ?_ ?_<;>intro hc
    all_goals exact D3 rfl rfl rfl rfl rfl rfl rfl
  ·rw[if_neg h2]at c2
   have c3:=c2
   have c4:=c2
   rw[show E8 (okV p u) (Ed p u)=big from if_neg fun h=>h2 h.2.1]
   refine Fo a8u ?_
   repeat' first|refine WY ?_|(apply p0v A8)|refine Zbc ?_|(apply Ords.one (i:=0);decide+kernel;exact rfl)|(apply Ords.one (i:=1);decide+kernel;exact rfl)|(apply Ords.one (i:=2);decide+kernel;exact rfl)|(apply Ords.one (i:=3);decide+kernel;exact rfl)|(apply Ords.one (i:=4);decide+kernel;exact rfl)|(apply Ords.one (i:=5);decide+kernel;exact rfl)|(apply Ords.one (i:=6);decide+kernel;exact rfl)|(apply Ords.one (i:=7);decide+kernel;exact rfl)|(apply Ords.one (i:=8);decide+kernel;exact rfl)|(apply Ords.one (i:=9);decide+kernel;exact rfl)|(apply p0a (i:=0) (j:=1);decide+kernel;exact rfl;exact rfl)|(apply p0a (i:=0) (j:=2);decide+kernel;exact rfl;exact rfl)|(apply p0a (i:=0) (j:=3);decide+kernel;exact rfl;exact rfl)|(apply p0a (i:=0) (j:=4);decide+kernel;exact rfl;exact rfl)|(apply p0a (i:=1) (j:=5);decide+kernel;exact rfl;exact rfl)|(apply p0a (i:=2) (j:=5);decide+kernel;exact rfl;exact rfl)|(apply p0a (i:=3) (j:=5);decide+kernel;exact rfl;exact rfl)|(apply p0a (i:=4) (j:=5);decide+kernel;exact rfl;exact rfl)|(apply p0a (i:=5) (j:=6);decide+kernel;exact rfl;exact rfl)|(apply p0a (i:=4) (j:=6);decide+kernel;exact rfl;exact rfl)|(apply p0a (i:=6) (j:=7);decide+kernel;exact rfl;exact rfl)|(apply p0a (i:=5) (j:=7);decide+kernel;exact rfl;exact rfl)|refine V ?_|refine W2 ?_ ?_<;>intro hc
   all_goals exact D3 rfl rfl rfl rfl rfl rfl rfl
 ·rw[if_neg h1]at c1
  have c2:=c1
  have c3:=c1
  have c4:=c1
  rw[show E8 (okV p u) (Ed p u)=big from if_neg fun h=>h1 h.1]
  refine Fo a8u ?_
  repeat' first|refine WY ?_|(apply p0v A8)|refine Zbc ?_|(apply Ords.one (i:=0);decide+kernel;exact rfl)|(apply Ords.one (i:=1);decide+kernel;exact rfl)|(apply Ords.one (i:=2);decide+kernel;exact rfl)|(apply Ords.one (i:=3);decide+kernel;exact rfl)|(apply Ords.one (i:=4);decide+kernel;exact rfl)|(apply Ords.one (i:=5);decide+kernel;exact rfl)|(apply Ords.one (i:=6);decide+kernel;exact rfl)|(apply Ords.one (i:=7);decide+kernel;exact rfl)|(apply Ords.one (i:=8);decide+kernel;exact rfl)|(apply Ords.one (i:=9);decide+kernel;exact rfl)|(apply p0a (i:=0) (j:=1);decide+kernel;exact rfl;exact rfl)|(apply p0a (i:=0) (j:=2);decide+kernel;exact rfl;exact rfl)|(apply p0a (i:=0) (j:=3);decide+kernel;exact rfl;exact rfl)|(apply p0a (i:=0) (j:=4);decide+kernel;exact rfl;exact rfl)|(apply p0a (i:=1) (j:=5);decide+kernel;exact rfl;exact rfl)|(apply p0a (i:=2) (j:=5);decide+kernel;exact rfl;exact rfl)|(apply p0a (i:=3) (j:=5);decide+kernel;exact rfl;exact rfl)|(apply p0a (i:=4) (j:=5);decide+kernel;exact rfl;exact rfl)|(apply p0a (i:=5) (j:=6);decide+kernel;exact rfl;exact rfl)|(apply p0a (i:=4) (j:=6);decide+kernel;exact rfl;exact rfl)|(apply p0a (i:=6) (j:=7);decide+kernel;exact rfl;exact rfl)|(apply p0a (i:=5) (j:=7);decide+kernel;exact rfl;exact rfl)|refine V ?_|refine W2 ?_ ?_<;>intro hc
  all_goals exact D3 rfl rfl rfl rfl rfl rfl rfl
theorem Agz(p:PcQ)(u:Rat)(hp:p.ok)(hu:Fits u):Fz 296 [A0 p.row,A0 (frR u)] (E8 (okS p u) (H9 p u)):=by
 have c1:=Kv p.c u hp.c hu
 have c0:=Co 2
 unfold Bg at c1
 by_cases h1:Fits (p.c*u)
 ·rw[if_pos h1]at c1
  have c2:Fz 159 [A0 [.i 2,.i 1],A0 (frR (p.c*u))] (Bg (2*(p.c*u))):=Kv 2 (p.c*u) (by decide) h1
  unfold Bg at c2
  by_cases h2:Fits (2*(p.c*u))
  ·rw[if_pos h2]at c2
   have c3:=K3 p.b (2*(p.c*u)) hp.b h2
   unfold Bg at c3
   by_cases h3:Fits (p.b+2*(p.c*u))
   ·rw[if_pos h3]at c3
    rw[show E8 (okS p u) (H9 p u)=frE (H9 p u) 0 from if_pos ⟨h1,h2,h3⟩]
    refine Fo b0d ?_
    repeat' first|refine WY ?_|(apply p0v A8)|refine Zbc ?_|(apply Ords.one (i:=0);decide+kernel;exact rfl)|(apply Ords.one (i:=1);decide+kernel;exact rfl)|(apply Ords.one (i:=2);decide+kernel;exact rfl)|(apply Ords.one (i:=3);decide+kernel;exact rfl)|(apply Ords.one (i:=4);decide+kernel;exact rfl)|(apply Ords.one (i:=5);decide+kernel;exact rfl)|(apply Ords.one (i:=6);decide+kernel;exact rfl)|(apply Ords.one (i:=7);decide+kernel;exact rfl)|(apply Ords.one (i:=8);decide+kernel;exact rfl)|(apply Ords.one (i:=9);decide+kernel;exact rfl)|(apply p0a (i:=0) (j:=1);decide+kernel;exact rfl;exact rfl)|(apply p0a (i:=0) (j:=2);decide+kernel;exact rfl;exact rfl)|(apply p0a (i:=0) (j:=3);decide+kernel;exact rfl;exact rfl)|(apply p0a (i:=0) (j:=4);decide+kernel;exact rfl;exact rfl)|(apply p0a (i:=1) (j:=5);decide+kernel;exact rfl;exact rfl)|(apply p0a (i:=2) (j:=5);decide+kernel;exact rfl;exact rfl)|(apply p0a (i:=3) (j:=5);decide+kernel;exact rfl;exact rfl)|(apply p0a (i:=4) (j:=5);decide+kernel;exact rfl;exact rfl)|(apply p0a (i:=5) (j:=6);decide+kernel;exact rfl;exact rfl)|(apply p0a (i:=4) (j:=6);decide+kernel;exact rfl;exact rfl)|(apply p0a (i:=6) (j:=7);decide+kernel;exact rfl;exact rfl)|(apply p0a (i:=5) (j:=7);decide+kernel;exact rfl;exact rfl)|refine V ?_|refine W2 ?_ ?_<;>intro hc
    all_goals exact D3 rfl rfl rfl rfl rfl rfl rfl
   ·rw[if_neg h3]at c3
    rw[show E8 (okS p u) (H9 p u)=big from if_neg fun h=>h3 h.2.2]
    refine Fo b0d ?_
    repeat' first|refine WY ?_|(apply p0v A8)|refine Zbc ?_|(apply Ords.one (i:=0);decide+kernel;exact rfl)|(apply Ords.one (i:=1);decide+kernel;exact rfl)|(apply Ords.one (i:=2);decide+kernel;exact rfl)|(apply Ords.one (i:=3);decide+kernel;exact rfl)|(apply Ords.one (i:=4);decide+kernel;exact rfl)|(apply Ords.one (i:=5);decide+kernel;exact rfl)|(apply Ords.one (i:=6);decide+kernel;exact rfl)|(apply Ords.one (i:=7);decide+kernel;exact rfl)|(apply Ords.one (i:=8);decide+kernel;exact rfl)|(apply Ords.one (i:=9);decide+kernel;exact rfl)|(apply p0a (i:=0) (j:=1);decide+kernel;exact rfl;exact rfl)|(apply p0a (i:=0) (j:=2);decide+kernel;exact rfl;exact rfl)|(apply p0a (i:=0) (j:=3);decide+kernel;exact rfl;exact rfl)|(apply p0a (i:=0) (j:=4);decide+kernel;exact rfl;exact rfl)|(apply p0a (i:=1) (j:=5);decide+kernel;exact rfl;exact rfl)|(apply p0a (i:=2) (j:=5);decide+kernel;exact rfl;exact rfl)|(apply p0a (i:=3) (j:=5);decide+kernel;exact rfl;exact rfl)|(apply p0a (i:=4) (j:=5);decide+kernel;exact rfl;exact rfl)|(apply p0a (i:=5) (j:=6);decide+kernel;exact rfl;exact rfl)|(apply p0a (i:=4) (j:=6);decide+kernel;exact rfl;exact rfl)|(apply p0a (i:=6) (j:=7);decide+kernel;exact rfl;exact rfl)|(apply p0a (i:=5) (j:=7);decide+kernel;exact rfl;exact rfl)|refine V ?_|refine W2 ?_ ?_<;>intro hc
    all_goals exact D3 rfl rfl rfl rfl rfl rfl rfl
  ·rw[if_neg h2]at c2
   have c3:=c2
   rw[show E8 (okS p u) (H9 p u)=big from if_neg fun h=>h2 h.2.1]
   refine Fo b0d ?_
   repeat' first|refine WY ?_|(apply p0v A8)|refine Zbc ?_|(apply Ords.one (i:=0);decide+kernel;exact rfl)|(apply Ords.one (i:=1);decide+kernel;exact rfl)|(apply Ords.one (i:=2);decide+kernel;exact rfl)|(apply Ords.one (i:=3);decide+kernel;exact rfl)|(apply Ords.one (i:=4);decide+kernel;exact rfl)|(apply Ords.one (i:=5);decide+kernel;exact rfl)|(apply Ords.one (i:=6);decide+kernel;exact rfl)|(apply Ords.one (i:=7);decide+kernel;exact rfl)|(apply Ords.one (i:=8);decide+kernel;exact rfl)|(apply Ords.one (i:=9);decide+kernel;exact rfl)|(apply p0a (i:=0) (j:=1);decide+kernel;exact rfl;exact rfl)|(apply p0a (i:=0) (j:=2);decide+kernel;exact rfl;exact rfl)|(apply p0a (i:=0) (j:=3);decide+kernel;exact rfl;exact rfl)|(apply p0a (i:=0) (j:=4);decide+kernel;exact rfl;exact rfl)|(apply p0a (i:=1) (j:=5);decide+kernel;exact rfl;exact rfl)|(apply p0a (i:=2) (j:=5);decide+kernel;exact rfl;exact rfl)|(apply p0a (i:=3) (j:=5);decide+kernel;exact rfl;exact rfl)|(apply p0a (i:=4) (j:=5);decide+kernel;exact rfl;exact rfl)|(apply p0a (i:=5) (j:=6);decide+kernel;exact rfl;exact rfl)|(apply p0a (i:=4) (j:=6);decide+kernel;exact rfl;exact rfl)|(apply p0a (i:=6) (j:=7);decide+kernel;exact rfl;exact rfl)|(apply p0a (i:=5) (j:=7);decide+kernel;exact rfl;exact rfl)|refine V ?_|refine W2 ?_ ?_<;>intro hc
   all_goals exact D3 rfl rfl rfl rfl rfl rfl rfl
 ·rw[if_neg h1]at c1
  have c2:=c1
  have c3:=c1
  rw[show E8 (okS p u) (H9 p u)=big from if_neg fun h=>h1 h.1]
  refine Fo b0d ?_
  repeat' first|refine WY ?_|(apply p0v A8)|refine Zbc ?_|(apply Ords.one (i:=0);decide+kernel;exact rfl)|(apply Ords.one (i:=1);decide+kernel;exact rfl)|(apply Ords.one (i:=2);decide+kernel;exact rfl)|(apply Ords.one (i:=3);decide+kernel;exact rfl)|(apply Ords.one (i:=4);decide+kernel;exact rfl)|(apply Ords.one (i:=5);decide+kernel;exact rfl)|(apply Ords.one (i:=6);decide+kernel;exact rfl)|(apply Ords.one (i:=7);decide+kernel;exact rfl)|(apply Ords.one (i:=8);decide+kernel;exact rfl)|(apply Ords.one (i:=9);decide+kernel;exact rfl)|(apply p0a (i:=0) (j:=1);decide+kernel;exact rfl;exact rfl)|(apply p0a (i:=0) (j:=2);decide+kernel;exact rfl;exact rfl)|(apply p0a (i:=0) (j:=3);decide+kernel;exact rfl;exact rfl)|(apply p0a (i:=0) (j:=4);decide+kernel;exact rfl;exact rfl)|(apply p0a (i:=1) (j:=5);decide+kernel;exact rfl;exact rfl)|(apply p0a (i:=2) (j:=5);decide+kernel;exact rfl;exact rfl)|(apply p0a (i:=3) (j:=5);decide+kernel;exact rfl;exact rfl)|(apply p0a (i:=4) (j:=5);decide+kernel;exact rfl;exact rfl)|(apply p0a (i:=5) (j:=6);decide+kernel;exact rfl;exact rfl)|(apply p0a (i:=4) (j:=6);decide+kernel;exact rfl;exact rfl)|(apply p0a (i:=6) (j:=7);decide+kernel;exact rfl;exact rfl)|(apply p0a (i:=5) (j:=7);decide+kernel;exact rfl;exact rfl)|refine V ?_|refine W2 ?_ ?_<;>intro hc
  all_goals exact D3 rfl rfl rfl rfl rfl rfl rfl
def okA(x:PcQ)(t:Rat):Prop:=Fits (t-x.f)/\okV x (t-x.f)
instance (x:PcQ)(t:Rat):Decidable (okA x t):=by unfold okA;exact inferInstance
def okB(x:PcQ)(t:Rat):Prop:=Fits (t-x.f)/\okS x (t-x.f)
instance (x:PcQ)(t:Rat):Decidable (okB x t):=by unfold okB;exact inferInstance
theorem Aby(l:List PcQ)(k:Int)(t:Rat)(x:PcQ)(hx:l[0]?=some x)(hk:k<0):Fz 122 [.sl (l.map PcQ.row),.i k,A0 (frR t)] (frE x.a 0):=by
 have hb:(l.map PcQ.row)[(0:Int).toNat]?=some x.row:=by rw[show(0:Int).toNat=0 from rfl,a0d,hx];rfl
 refine Fo a9z ?_
 repeat' first|refine WX ?_|refine W2 ?_ ?_<;>intro hc
 exact D3 rfl rfl rfl rfl rfl rfl rfl
theorem A2y(l:List PcQ)(k:Int)(t:Rat)(hk:k<0):Fz 268 [.sl (l.map PcQ.row),.i k,A0 (frR t)] (frE 0 0):=by
 have c:Fz 65 [.i 0] (A0 (frR 0)):=Co 0
 refine Fo b0c ?_
 repeat' first|refine WX ?_|refine W2 ?_ ?_<;>intro hc
 exact D3 rfl rfl rfl rfl rfl rfl rfl
theorem Aex(l:List PcQ)(k:Int)(t:Rat)(x:PcQ)(hx:l[k.toNat]?=some x)(hk:0<=k)(hp:x.ok)(ht:Fits t):Fz 122 [.sl (l.map PcQ.row),.i k,A0 (frR t)] (E8 (okA x t) (Ed x (t-x.f))):=by
 have hb:(l.map PcQ.row)[k.toNat]?=some x.row:=by rw[a0d,hx];rfl
 have hk':¬k<0:=by omega
 have c1:=O2 t x.f ht hp.f
 unfold Bg at c1
 by_cases h1:Fits (t-x.f)
 ·rw[if_pos h1]at c1
  have c2:=Af0 x (t-x.f) hp h1
  unfold E8 at c2
  by_cases h2:okV x (t-x.f)
  ·rw[if_pos h2]at c2
   rw[show E8 (okA x t) (Ed x (t-x.f))=frE (Ed x (t-x.f)) 0 from if_pos ⟨h1,h2⟩]
   refine Fo a9z ?_
   repeat' first|refine WY ?_|refine Zb5 ?_|refine Dw 8 ?_|refine Dv 8 ?_|refine Da ?_|refine V ?_|refine W2 ?_ ?_<;>intro hc
   all_goals exact D3 rfl rfl rfl rfl rfl rfl rfl
  ·rw[if_neg h2]at c2
   rw[show E8 (okA x t) (Ed x (t-x.f))=big from if_neg fun h=>h2 h.2]
   refine Fo a9z ?_
   repeat' first|refine WY ?_|refine Zb5 ?_|refine Dw 8 ?_|refine Dv 8 ?_|refine Da ?_|refine V ?_|refine W2 ?_ ?_<;>intro hc
   all_goals exact D3 rfl rfl rfl rfl rfl rfl rfl
 ·rw[if_neg h1]at c1
  rw[show E8 (okA x t) (Ed x (t-x.f))=big from if_neg fun h=>h1 h.1]
  refine Fo a9z ?_
  repeat' first|refine WY ?_|refine Zb5 ?_|refine Dw 8 ?_|refine Dv 8 ?_|refine Da ?_|refine V ?_|refine W2 ?_ ?_<;>intro hc
  all_goals exact D3 rfl rfl rfl rfl rfl rfl rfl
theorem A4f(l:List PcQ)(k:Int)(t:Rat)(x:PcQ)(hx:l[k.toNat]?=some x)(hk:0<=k)(hp:x.ok)(ht:Fits t):Fz 268 [.sl (l.map PcQ.row),.i k,A0 (frR t)] (E8 (okB x t) (H9 x (t-x.f))):=by
 have hb:(l.map PcQ.row)[k.toNat]?=some x.row:=by rw[a0d,hx];rfl
 have hk':¬k<0:=by omega
 have c1:=O2 t x.f ht hp.f
 unfold Bg at c1
 by_cases h1:Fits (t-x.f)
 ·rw[if_pos h1]at c1
  have c2:=Agz x (t-x.f) hp h1
  unfold E8 at c2
  by_cases h2:okS x (t-x.f)
  ·rw[if_pos h2]at c2
   rw[show E8 (okB x t) (H9 x (t-x.f))=frE (H9 x (t-x.f)) 0 from if_pos ⟨h1,h2⟩]
   refine Fo b0c ?_
   repeat' first|refine WY ?_|refine Zb5 ?_|refine Dw 8 ?_|refine Dv 8 ?_|refine Da ?_|refine V ?_|refine W2 ?_ ?_<;>intro hc
   all_goals exact D3 rfl rfl rfl rfl rfl rfl rfl
  ·rw[if_neg h2]at c2
   rw[show E8 (okB x t) (H9 x (t-x.f))=big from if_neg fun h=>h2 h.2]
   refine Fo b0c ?_
   repeat' first|refine WY ?_|refine Zb5 ?_|refine Dw 8 ?_|refine Dv 8 ?_|refine Da ?_|refine V ?_|refine W2 ?_ ?_<;>intro hc
   all_goals exact D3 rfl rfl rfl rfl rfl rfl rfl
 ·rw[if_neg h1]at c1
  rw[show E8 (okB x t) (H9 x (t-x.f))=big from if_neg fun h=>h1 h.1]
  refine Fo b0c ?_
  repeat' first|refine WY ?_|refine Zb5 ?_|refine Dw 8 ?_|refine Dv 8 ?_|refine Da ?_|refine V ?_|refine W2 ?_ ?_<;>intro hc
  all_goals exact D3 rfl rfl rfl rfl rfl rfl rfl
theorem Do{r:Rat}(h:Fits r):kQ r=r:=if_pos h
theorem Cs{r:Rat}{e:Int}(h:Fits r):kE r e=e:=if_pos h
theorem Dp{r:Rat}(h:¬Fits r):kE r 0=5:=by unfold kE;rw[if_neg h,if_pos rfl]
theorem Ar(r:Rat):kE r 5=5:=by
 unfold kE
 split
 ·rfl
 ·rw[if_neg (by decide)]
theorem Nd(p:PcQ)(u:Rat):Ir p u 5=5:=by simp only[Ir,Ar]
theorem Kz(p:PcQ)(u:Rat):L9 p u 5=5:=by simp only[L9,Ar]
theorem Y7{p:PcQ}{u:Rat}(h:okV p u)(e:Int):Ms p u=Ed p u/\Ir p u e=e:=by
 obtain⟨h1,h2,h3,h4⟩:=h
 unfold Ms Ir A8n Y6 V3 Gu Ed
 rw[Do h1,Do h2,Do h3,Do h4,Cs h4,Cs h3,Cs h2,Cs h1]
 exact⟨rfl,rfl⟩
theorem A6s{p:PcQ}{u:Rat}(h:¬okV p u):Ir p u 0=5:=by
 unfold Ir A8n Y6 V3 Gu
 by_cases h1:Fits (p.c*u)
 ·rw[Cs h1,Do h1]
  by_cases h2:Fits (p.b+p.c*u)
  ·rw[Cs h2,Do h2]
   by_cases h3:Fits ((p.b+p.c*u)*u)
   ·rw[Cs h3,Do h3]
    exact Dp fun h4=>h ⟨h1,h2,h3,h4⟩
   ·rw[Dp h3,Ar]
  ·rw[Dp h2,Ar,Ar]
 ·rw[Dp h1,Ar,Ar,Ar]
theorem Y1{p:PcQ}{u:Rat}(h:okS p u)(e:Int):Q3 p u=H9 p u/\L9 p u e=e:=by
 obtain⟨h1,h2,h3⟩:=h
 unfold Q3 L9 A8b Rl Gu H9
 rw[Do h1,Do h2,Do h3,Cs h3,Cs h2,Cs h1]
 exact⟨rfl,rfl⟩
theorem A6h{p:PcQ}{u:Rat}(h:¬okS p u):L9 p u 0=5:=by
 unfold L9 A8b Rl Gu
 by_cases h1:Fits (p.c*u)
 ·rw[Cs h1,Do h1]
  by_cases h2:Fits (2*(p.c*u))
  ·rw[Cs h2,Do h2]
   exact Dp fun h3=>h ⟨h1,h2,h3⟩
  ·rw[Dp h2,Ar]
 ·rw[Dp h1,Ar,Ar]
def Ag(l:List PcQ):Prop:=∀i,i+1<l.length->(A6 l i).f<(A6 l (i+1)).f
theorem A9l{l:List PieceR}(h:J9 l):okC (l.map toQ)/\(l.map toQ).map PcQ.row=l.map PieceR.row/\l.map toQ≠[]/\Ag (l.map toQ):=by
 obtain⟨h1,h2,h3⟩:=h
 refine⟨fun p hp=>?_,?_,fun e=>?_,fun i hi=>?_⟩
 ·obtain⟨x,hx,rfl⟩:=a1d.1 hp
  exact(h2 x hx).ok.1
 ·rw[a7y]
  exact b2x fun x hx=>(h2 x hx).ok.2
 ·have:=congrArg List.length e
  rw[a0e,a0m]at this
  omega
 ·rw[a0e]at hi
  have a1:(l.map toQ)[i]?=some (toQ (l[i]'(by omega))):=by rw[a0d,a0b (by omega)];rfl
  have a2:(l.map toQ)[i+1]?=some (toQ (l[i+1]'(by omega))):=by rw[a0d,a0b (by omega)];rfl
  rw[Bs a1,Bs a2,<-Ek (a0b (by omega)),<-Ek (a0b (by omega))]
  exact h3 i (by omega)
theorem Ut{l:List PcQ}(hs:Ag l)(t:Rat):∀k:Nat,k<l.length->(A6 l k).f<=t->rpN l t (k+1)=k+1
 |0,_,h=>by rw[rpN,if_pos ⟨rfl,h⟩]
 |k+1,hk,h=>by
  have h1:(A6 l k).f<=t:=a1c (a1e (hs k hk)) h
  rw[rpN,if_pos ⟨Ut hs t k (by omega) h1,h⟩]
theorem A5s{l:List PcQ}(hs:Ag l)(t:Rat):∀k:Nat,k<=l.length->pcK l t k=(rpN l t k:Int)-1
 |0,_=>rfl
 |k+1,hk=>by
  have ih:=A5s hs t k (by omega)
  by_cases h:(A6 l k).f<=t
  ·rw[Ut hs t k hk h,pcK,if_pos h];omega
  ·rw[pcK,if_neg h,ih,rpN,if_neg fun e=>h e.2]
theorem Xs{l:List PcQ}(hs:Ag l)(t:Rat):pcI l t=rpI l t:=A5s hs t l.length (a0n _)
theorem Iz(q:Rat):K5 q 5=big:=if_neg (by decide)
theorem Afu(x:PcQ)(t:Rat):K5 (Ms x (kQ (t-x.f))) (Ir x (kQ (t-x.f)) (kE (t-x.f) 0))=E8 (okA x t) (Ed x (t-x.f)):=by
 unfold E8
 by_cases h1:Fits (t-x.f)
 ·rw[Do h1,Cs h1]
  by_cases h2:okV x (t-x.f)
  ·rw[if_pos (show okA x t from⟨h1,h2⟩),(Y7 h2 0).1,(Y7 h2 0).2];rfl
  ·rw[if_neg (show ¬okA x t from fun h=>h2 h.2),A6s h2,Iz]
 ·rw[if_neg (show ¬okA x t from fun h=>h1 h.1),Dp h1,Nd,Iz]
theorem A8c(x:PcQ)(t:Rat):K5 (Q3 x (kQ (t-x.f))) (L9 x (kQ (t-x.f)) (kE (t-x.f) 0))=E8 (okB x t) (H9 x (t-x.f)):=by
 unfold E8
 by_cases h1:Fits (t-x.f)
 ·rw[Do h1,Cs h1]
  by_cases h2:okS x (t-x.f)
  ·rw[if_pos (show okB x t from⟨h1,h2⟩),(Y1 h2 0).1,(Y1 h2 0).2];rfl
  ·rw[if_neg (show ¬okB x t from fun h=>h2 h.2),A6h h2,Iz]
 ·rw[if_neg (show ¬okB x t from fun h=>h1 h.1),Dp h1,Kz,Iz]
theorem A84(l:List PcQ)(t:Rat)(hl:okC l)(h0:l≠[])(hs:Ag l)(ht:Fits t):Fz 122 [.sl (l.map PcQ.row),.i (rpI l t),A0 (frR t)] (K5 (atQ l t) (atE l t 0)):=by
 rw[<-Xs hs t]
 unfold atQ atE
 by_cases h:pcI l t<0
 ·rw[if_pos h,if_pos h]
  have hx:l[0]?=some (A6 l 0):=by
   have:=a1i.2 h0
   rw[a0b this]
   congr 1
   exact(Bs (a0b this)).symm
  exact Aby l _ t _ hx h
 ·rw[if_neg h,if_neg h]
  have hx:=O1 h
  have:=Aex l (pcI l t) t _ hx (by omega) (hl _ (a0a hx)) ht
  rwa[<-Afu]at this
theorem Aey(l:List PcQ)(t:Rat)(hl:okC l)(h0:l≠[])(hs:Ag l)(ht:Fits t):Fz 268 [.sl (l.map PcQ.row),.i (rpI l t),A0 (frR t)] (K5 (atS l t) (L1 l t 0)):=by
 rw[<-Xs hs t]
 unfold atS L1
 by_cases h:pcI l t<0
 ·rw[if_pos h,if_pos h]
  exact A2y l _ t h
 ·rw[if_neg h,if_neg h]
  have hx:=O1 h
  have:=A4f l (pcI l t) t _ hx (by omega) (hl _ (a0a hx)) ht
  rwa[<-A8c]at this
theorem Zm(l:List PieceR)(hn:l.length<=1000000000000000):Fz 120 [.sl (l.map PieceR.row)] (.b (decide (J9 l))):=by
 by_cases h:l.length<=1000000
 ·exact Aez l h
 have hle:=lmA l PieceR.row
 have h1:¬(((l.map PieceR.row).length:Nat):Int)<1:=by omega
 have h2:200<(((l.map PieceR.row).length:Nat):Int):=by omega
 refine Fo a9y ?_
 repeat' first|refine WX ?_|refine W2 ?_ ?_<;>intro hc
 exact Dd rfl rfl (congrArg Value.bool (decide_eq_false fun h=>by have:=h.1.2;omega).symm)
end Go.Proofs.YtcaicpnepfjcmaaGreat
