/- Lemmas of the proof. -/
import Derived.Test.YtcaicpnepfjcmaaGreatOc
set_option linter.all false
set_option maxHeartbeats 64000000
namespace Go.Proofs.YtcaicpnepfjcmaaGreat
def vaX(l:List PcQ)(t:Rat):Rat:=if pcI l t<0 then(A6 l 0).a else Ed (A6 l (pcI l t).toNat) (t-(A6 l (pcI l t).toNat).f)
def slX(l:List PcQ)(t:Rat):Rat:=if pcI l t<0 then 0 else H9 (A6 l (pcI l t).toNat) (t-(A6 l (pcI l t).toNat).f)
theorem Ahn{l:List PcQ}{t:Rat}(h:atE l t 0=0):atQ l t=vaX l t:=by
 unfold atQ vaX
 unfold atE at h
 by_cases hk:pcI l t<0
 ·rw[if_pos hk,if_pos hk]
 ·rw[if_neg hk]at h⊢
  rw[if_neg hk]
  generalize A6 l (pcI l t).toNat=p at*
  by_cases h1:Fits (t-p.f)
  ·rw[Do h1]at h⊢
   rw[Cs h1]at h
   by_cases h2:okV p (t-p.f)
   ·exact(Y7 h2 0).1
   ·rw[A6s h2]at h;cases h
  ·rw[Dp h1,Nd]at h;cases h
theorem Aho{l:List PcQ}{t:Rat}(h:L1 l t 0=0):atS l t=slX l t:=by
 unfold atS slX
 unfold L1 at h
 by_cases hk:pcI l t<0
 ·rw[if_pos hk,if_pos hk]
 ·rw[if_neg hk]at h⊢
  rw[if_neg hk]
  generalize A6 l (pcI l t).toNat=p at*
  by_cases h1:Fits (t-p.f)
  ·rw[Do h1]at h⊢
   rw[Cs h1]at h
   by_cases h2:okS p (t-p.f)
   ·exact(Y1 h2 0).1
   ·rw[A6h h2]at h;cases h
  ·rw[Dp h1,Kz]at h;cases h
theorem Z4(l:List PcQ)(s t:Rat):∀k:Nat,(∀i,i<k->((A6 l i).f<=s↔(A6 l i).f<=t))->pcK l s k=pcK l t k
 |0,_=>rfl
 |k+1,h=>by
  rw[pcK,pcK,Z4 l s t k fun i hi=>h i (by omega)]
  have:=h k (by omega)
  by_cases e:(A6 l k).f<=s
  ·rw[if_pos e,if_pos (this.1 e)]
  ·rw[if_neg e,if_neg fun k=>e (this.2 k)]
theorem Aao{l:List PcQ}{s t:Rat}(h:∀p∈l,(p.f<=s↔p.f<=t)):pcI l s=pcI l t:=Z4 l s t _ fun i hi=>h _ (by
 rw[Bs (a0b hi)];exact a4o hi)
theorem Uh(l:List PcQ)(t:Rat):∀k:Nat,(∀i:Nat,pcK l t k=i->(A6 l i).f<=t)/\∀j:Nat,pcK l t k<j->j<k->¬(A6 l j).f<=t
 |0=>⟨fun i h=>(by simp[pcK]at h),fun j _ h=>(by omega)⟩
 |k+1=>by
  obtain⟨h1,h2⟩:=Uh l t k
  rw[pcK]
  by_cases e:(A6 l k).f<=t
  ·rw[if_pos e]
   refine⟨fun i hi=>?_,fun j h3 h4=>(by omega)⟩
   obtain rfl:k=i:=by omega
   exact e
  ·rw[if_neg e]
   refine⟨h1,fun j h3 h4=>?_⟩
   by_cases e2:j=k
   ·subst e2;exact e
   ·exact h2 j h3 (by omega)
theorem Wa{l:List PcQ}{t:Rat}(h:¬pcI l t<0):(A6 l (pcI l t).toNat).f<=t:=(Uh l t l.length).1 _ (by show pcI l t=_;omega)
theorem R8{l:List PcQ}{t:Rat}{j:Nat}(h:pcI l t<j)(hj:j<l.length):¬(A6 l j).f<=t:=(Uh l t l.length).2 j h hj
theorem Wb(l:List PcQ)(t:Rat):pcI l t<l.length:=(N8 l t l.length).2
theorem A36{l:List PcQ}(hs:Ag l){i j:Nat}(hij:i<j)(hj:j<l.length):(A6 l i).f<(A6 l j).f:=by
 induction j with
 |zero=>omega
 |succ j ih=>
  have h1:=hs j hj
  by_cases e:i=j
  ·subst e;exact h1
  ·have h2:=ih (by omega) (by omega)
   grind
theorem Ahb(p:PcQ)(s t:Rat):Ed p (t-p.f)=Ed p (s-p.f)+(H9 p (s-p.f)+p.c*(t-s))*(t-s):=by
 unfold Ed H9
 grind
theorem A3m{l:List PcQ}{s t:Rat}(h:pcI l s=pcI l t):vaX l t=vaX l s+(slX l s+atC l s*(t-s))*(t-s):=by
 unfold vaX slX atC
 rw[<-h]
 by_cases hk:pcI l s<0
 ·rw[if_pos hk,if_pos hk,if_pos hk,if_pos hk];grind
 ·rw[if_neg hk,if_neg hk,if_neg hk,if_neg hk]
  exact Ahb _ s t
theorem Zo{A:List PcQ}{fr te:Rat}:∀{n:Nat}{r:List Lf},Fa A fr te n=some r->∃j,j<n/\D0 A fr te j=some r/\∀i,i<j->D0 A fr te i=none
 |0,r,h=>by cases h
 |n+1,r,h=>by
  rw[Fa]at h
  cases e:Fa A fr te n with
  |some q=>
   rw[e]at h
   injection h with h
   subst h
   obtain⟨j,h1,h2,h3⟩:=Zo e
   exact⟨j,by omega,h2,h3⟩
  |none=>
   rw[e]at h
   have hn:∀n,Fa A fr te n=none->∀i,i<n->D0 A fr te i=none:=fun n=>by
    induction n with
    |zero=>intro _ i hi;omega
    |succ n ih=>
     intro h i hi
     rw[Fa]at h
     cases e:Fa A fr te n with
     |some q=>rw[e]at h;cases h
     |none=>
      rw[e]at h
      by_cases e2:i=n
      ·subst e2;exact h
      ·exact ih e i (by omega)
   exact⟨n,by omega,h,hn n e⟩
structure Lies(l:List PcQ)(fr te t:Rat)(i:Nat):Prop where
 lt:i<(A5 l fr).length
 val:vaX l t=vR (A6 (A5 l fr) i) t
 ge:ptA (A5 l fr) fr i<=t
 le:t<=ptB (A5 l fr) te i
 inn:¬B8 (A5 l fr) fr te i
 past:∀j,j<i->ptB (A5 l fr) te j<=t
theorem Ajb{l:List PcQ}{fr te t:Rat}(hs:Ag l)(h1:fr<=t)(h2:t<=te):Lies l fr te t (pcI l t+1).toNat:=by
 have hr:=(N8 l t l.length).1
 have hr': -1<=pcI l t:=hr
 have hlt:=Wb l t
 have hlen:(A5 l fr).length=l.length+1:=rfl
 have hA:∀j,A6 (A5 l fr) (j+1)=A6 l j:=fun j=>H3 _ _ _
 obtain⟨i,hi⟩:∃i:Nat,(pcI l t+1).toNat=i:=⟨_,rfl⟩
 rw[hi]
 have hf:∀j,j<i->(A6 (A5 l fr) (j+1)).f<=t:=fun j hj=>by
  rw[hA]
  have h3:=Wa (l:=l) (t:=t) (by omega)
  rw[show(pcI l t).toNat=i-1 by omega]at h3
  by_cases e:j=i-1
  ·rw[e];exact h3
  ·exact a1c (a1e (A36 hs (show j<i-1 by omega) (by omega))) h3
 have hn:i+1<(A5 l fr).length->t<(A6 (A5 l fr) (i+1)).f:=fun h=>by
  rw[hA]
  exact a2w.1 (R8 (by omega) (by omega))
 have hge:ptA (A5 l fr) fr i<=t:=by
  unfold ptA
  split
  ·rename_i h
   obtain⟨j,rfl⟩:∃j,i=j+1:=⟨i-1,by omega⟩
   exact hf j (by omega)
  ·exact h1
 refine⟨by omega,?_,hge,?_,?_,fun j hj=>?_⟩
 ·unfold vaX
  by_cases hk:pcI l t<0
  ·obtain rfl:i=0:=by omega
   rw[if_pos hk]
   show(A6 l 0).a=vR ⟨fr,(A6 l 0).a,0,0⟩ t
   unfold vR
   grind
  ·obtain⟨j,rfl⟩:∃j,i=j+1:=⟨i-1,by omega⟩
   rw[if_neg hk,hA,show(pcI l t).toNat=j by omega]
   rfl
 ·unfold ptB
  split
  ·rename_i h;exact a1e (hn h.1)
  ·exact h2
 ·unfold B8
  rintro(h|⟨h,h3⟩)
  ·have:=a1c hge h2
   exact a1j.2 this h
  ·exact absurd (a1c h3 hge) (a2w.2 (hn h))
 ·unfold ptB
  split
  ·exact hf j hj
  ·rename_i h
   have h3:=hf j hj
   rcases Classical.em (te<=(A6 (A5 l fr) (j+1)).f)with h4|h4
   ·exact a1c h4 h3
   ·exact absurd ⟨by omega,a2w.1 h4⟩ h
theorem Ag7{op:Rat->Rat->Rat}{a b:List PcQ}{t:Rat}(h:jE op a b t 0=0):Eu a t 0=0/\Eu b t 0=0/\Fits (op (atP a t).a (atP b t).a)/\Fits (op (atP a t).b (atP b t).b)/\Fits (op (atP a t).c (atP b t).c):=by
 unfold jE at h
 rcases Lp a t with e1|e1<;>rw[e1]at h
 ·rcases Lp b t with e2|e2<;>rw[e2]at h
  ·by_cases h1:Fits (op (atP a t).a (atP b t).a)
   ·rw[Cs h1]at h
    by_cases h2:Fits (op (atP a t).b (atP b t).b)
    ·rw[Cs h2]at h
     by_cases h3:Fits (op (atP a t).c (atP b t).c)
     ·exact⟨e1,e2,h1,h2,h3⟩
     ·rw[Dp h3]at h;cases h
    ·rw[Dp h2,Ar]at h;cases h
   ·rw[Dp h1,Ar,Ar]at h;cases h
  ·rw[Ar,Ar,Ar]at h;cases h
 ·rw[Mu,Ar,Ar,Ar]at h;cases h
theorem Aiy(op:Rat->Rat->Rat)(a b:List PcQ)(t:Rat):jE op a b t 0=0\/jE op a b t 0=5:=by
 unfold jE
 rcases Lp a t with e1|e1<;>rw[e1]
 ·exact Ho _ (Ho _ (Ho _ (Lp b t)))
 ·rw[Mu,Ar,Ar,Ar];exact .inr rfl
theorem A5d{op:Rat->Rat->Rat}{a b:List PcQ}:∀{l:List Rat},jEs op a b l=0->∀t∈l,jE op a b t 0=0
 |[],_,t,ht=>by simp at ht
 |s::l,h,t,ht=>by
  unfold jEs at h
  rw[a2y]at h
  rcases Aiy op a b s with e|e
  ·rw[e]at h
   rcases a1q.1 ht with rfl|ht
   ·exact e
   ·exact A5d h t ht
  ·rw[e,A1o]at h;cases h
theorem A8v{l:List PcQ}{t:Rat}(h:Eu l t 0=0):atE l t 0=0/\L1 l t 0=0:=by
 rw[X5]at h
 split at h
 ·exact⟨by assumption,h⟩
 ·cases h
theorem A8w{l:List PcQ}{t:Rat}(h:Eu l t 0=0):atP l t=⟨t,vaX l t,slX l t,atC l t⟩:=by
 obtain⟨h1,h2⟩:=A8v h
 rw[A0r,Ahn h1,Aho h2]
theorem Aiz{op:Rat->Rat->Rat}{a b:List PcQ}{t:Rat}(h:jE op a b t 0=0):jP op a b t=⟨t,op (vaX a t) (vaX b t),op (slX a t) (slX b t),op (atC a t) (atC b t)⟩:=by
 obtain⟨h1,h2,h3,h4,h5⟩:=Ag7 h
 unfold jP
 rw[Do h3,Do h4,Do h5,A8w h1,A8w h2]
theorem Ago{l:List PcQ}{t:Rat}(h:∀p∈l,¬p.f<=t):pcI l t<0:=by
 rcases a5q (pcI l t) 0 with e|e
 ·exact e
 ·have h1:¬pcI l t<0:=by omega
  exact absurd (Wa h1) (h _ (a0a (O1 h1)))
structure Sum(op:Rat->Rat->Rat)(a b:List PcQ)(tms:List Rat)(s:List PcQ):Prop where
 ht:tms=An a b
 hs:s=tms.map (jP op a b)
 h0:jEs op a b tms=0
section
variable {op:Rat->Rat->Rat}{a b s:List PcQ}{tms:List Rat}
theorem Sum.len(h:Sum op a b tms s):s.length=tms.length:=by rw[h.hs,a0e]
theorem Sum.at(h:Sum op a b tms s){k:Nat}(hk:k<tms.length):A6 s k=⟨tms[k],op (vaX a tms[k]) (vaX b tms[k]),op (slX a tms[k]) (slX b tms[k]),op (atC a tms[k]) (atC b tms[k])⟩:=by
 have:=A5d h.h0 tms[k] (a4o hk)
 rw[<-Aiz this]
 refine Bs ?_
 rw[h.hs,a0d,a0b hk]
 rfl
theorem Sum.asc(h:Sum op a b tms s){i j:Nat}(hij:i<=j)(hj:j<tms.length):tms[i]'(by omega)<=tms[j]:=by
 by_cases e:i=j
 ·subst e;exact a2i
 ·have hp:tms.Pairwise (· < ·):=by rw[h.ht];exact Od _
  exact a1e (a3r.1 hp i j (by omega) hj (by omega))
theorem Sum.has(h:Sum op a b tms s){p:PcQ}(hp:p∈a\/p∈b):∃j,∃hj:j<tms.length,tms[j]=p.f:=by
 have:p.f∈tms:=by
  rw[h.ht,An,F5]
  exact a1d.2 ⟨p,a0p.2 hp,rfl⟩
 obtain⟨j,hj,e⟩:=b2w this
 exact⟨j,hj,e⟩
theorem Sum.idx(h:Sum op a b tms s){t:Rat}{k:Nat}(hk:pcI s t=k){l:List PcQ}(hl:∀p∈l,p∈a\/p∈b)(hkl:k<tms.length):pcI l tms[k]=pcI l t:=by
 have h1:tms[k]<=t:=by
  have:=Wa (l:=s) (t:=t) (by omega)
  rw[show(pcI s t).toNat=k by omega,h.at hkl]at this
  exact this
 refine Aao fun p hp=>⟨fun e=>a1c e h1,fun e=>?_⟩
 obtain⟨j,hj,hpj⟩:=h.has (hl p hp)
 rw[<-hpj]
 rcases a0y k j with hkj|hkj
 ·have:=R8 (l:=s) (t:=t) (j:=j) (by omega) (by rw[h.len];exact hj)
  rw[h.at hj]at this
  exact absurd (by rw[<-hpj]at e;exact e) this
 ·exact h.asc hkj hkl
theorem A01{l:List PcQ}{t:Rat}(hs:Ag l)(hl:∀p∈l,t<=p.f)(h0:l≠[]):vaX l t=(A6 l 0).a/\(pcI l t<0\/pcI l t=0/\t=(A6 l 0).f):=by
 unfold vaX
 by_cases hk:pcI l t<0
 ·rw[if_pos hk];exact⟨rfl,.inl hk⟩
 ·rw[if_neg hk]
  have h1:=Wa hk
  have hpos:=a1i.2 h0
  have h2:=hl _ (a4o hpos)
  rw[<-Bs (a0b hpos)]at h2
  have hlt:=Wb l t
  have hz:pcI l t=0:=by
   rcases a3e (pcI l t).toNat with e|e
   ·omega
   ·have:=A36 hs e (by omega)
    exfalso
    grind
  rw[hz]at h1⊢
  have ht:t=(A6 l 0).f:=b0u h2 h1
  refine⟨?_,.inr ⟨rfl,ht⟩⟩
  show Ed (A6 l 0) (t-(A6 l 0).f)=_
  unfold Ed
  rw[ht]
  grind
theorem Sum.first(h:Sum op a b tms s){l:List PcQ}(hl:∀p∈l,p∈a\/p∈b)(hpos:0<tms.length):∀p∈l,tms[0]<=p.f:=fun p hp=>by
 obtain⟨j,hj,hpj⟩:=h.has (hl p hp)
 rw[<-hpj]
 exact h.asc (a0k _) hj
theorem Sum.before(h:Sum op a b tms s){t:Rat}(hk:pcI s t<0){l:List PcQ}(hl:∀p∈l,p∈a\/p∈b):pcI l t<0:=Ago fun p hp e=>by
 obtain⟨j,hj,hpj⟩:=h.has (hl p hp)
 have:=R8 (l:=s) (t:=t) (j:=j) (by omega) (by rw[h.len];exact hj)
 rw[h.at hj]at this
 rw[<-hpj]at e
 exact this e
theorem Sum.value(h:Sum op a b tms s){c:Rat}(hop:∀p q,op p q=p+c*q)(ha:Ag a)(hb:Ag b)(ha0:a≠[])(hb0:b≠[])(t:Rat):vaX s t=op (vaX a t) (vaX b t):=by
 by_cases hk:pcI s t<0
 ·have hpos:0<tms.length:=by
   obtain⟨p,hp⟩:∃p,p∈a:=⟨_,a4o (a1i.2 ha0)⟩
   obtain⟨j,hj,_⟩:=h.has (.inl hp)
   omega
  have h1:=h.before hk (l:=a) fun p hp=>.inl hp
  have h2:=h.before hk (l:=b) fun p hp=>.inr hp
  have h3:=(A01 ha (h.first (fun p hp=>.inl hp) hpos) ha0).1
  have h4:=(A01 hb (h.first (fun p hp=>.inr hp) hpos) hb0).1
  have h5:vaX s t=(A6 s 0).a:=if_pos hk
  have h6:vaX a t=(A6 a 0).a:=if_pos h1
  have h7:vaX b t=(A6 b 0).a:=if_pos h2
  rw[h5,h6,h7,h.at hpos,<-h3,<-h4]
 ·have hlt:=Wb s t
  rw[h.len]at hlt
  obtain⟨k,hkk⟩:∃k:Nat,pcI s t=k:=⟨(pcI s t).toNat,by omega⟩
  have hkl:k<tms.length:=by omega
  have h1:=A3m (h.idx hkk (l:=a) (fun p hp=>.inl hp) hkl)
  have h2:=A3m (h.idx hkk (l:=b) (fun p hp=>.inr hp) hkl)
  have h3:vaX s t=Ed (A6 s k) (t-(A6 s k).f):=by
   unfold vaX
   rw[if_neg hk,show(pcI s t).toNat=k by omega]
  rw[h3,h.at hkl,h1,h2]
  unfold Ed
  simp only[hop]
  grind
end
def D9(by_:Rat)(p:PcQ):PcQ:=⟨p.f,p.a-by_,p.b,p.c⟩
theorem R2{by_:Rat}{l:List PcQ}{k:Nat}(hk:k<l.length):A6 (l.map (D9 by_)) k=D9 by_ (A6 l k):=by
 have hx:l[k]?=some l[k]:=a0b hk
 rw[Bs hx]
 exact Bs (by rw[a0d,hx];rfl)
theorem A5i{by_:Rat}{l:List PcQ}(t:Rat):∀k:Nat,k<=l.length->pcK (l.map (D9 by_)) t k=pcK l t k
 |0,_=>rfl
 |k+1,hk=>by
  rw[pcK,pcK,A5i t k (by omega),R2 (by omega)]
  rfl
theorem Aa7{by_:Rat}{l:List PcQ}(h0:l≠[])(t:Rat):vaX (l.map (D9 by_)) t=vaX l t-by_:=by
 have hpos:=a1i.2 h0
 have hi:pcI (l.map (D9 by_)) t=pcI l t:=by
  unfold pcI
  rw[a0e]
  exact A5i t _ (a0n _)
 have hlt:=Wb l t
 unfold vaX
 rw[hi]
 by_cases hk:pcI l t<0
 ·rw[if_pos hk,if_pos hk,R2 hpos]
  rfl
 ·rw[if_neg hk,if_neg hk,R2 (by omega)]
  unfold Ed D9
  grind
theorem Ado{by_:Rat}{l:List PcQ}(hs:Ag l):Ag (l.map (D9 by_)):=fun i hi=>by
 rw[a0e]at hi
 rw[R2 (by omega),R2 hi]
 exact hs i hi
end Go.Proofs.YtcaicpnepfjcmaaGreat
namespace Go.Proofs.YtcaicpnepfjcmaaGreat
open Go Go.RowKit
def toR(p:PcQ):PieceR:=⟨p.f.num,p.f.den,p.a.num,p.a.den,p.b.num,p.b.den,p.c.num,p.c.den⟩
theorem Y4(l:List PcQ):(l.map toR).map PieceR.row=l.map PcQ.row:=by
 rw[a7y]
 exact b2x fun p _=>rfl
theorem Qn{l:List PcQ}(hl:okC l)(hs:Ag l)(h1:1<=l.length)(h2:l.length<=200):J9 (l.map toR):=by
 have hat:∀i,i<l.length->Lg (l.map toR) i=(A6 l i).f:=fun i hi=>by
  have hx:l[i]?=some l[i]:=a0b hi
  rw[Bs hx,Ek (x:=toR l[i]) (by rw[a0d,hx];rfl)]
  exact F9 _
 refine⟨by rw[a0e];exact⟨h1,h2⟩,fun p hp=>?_,fun i hi=>?_⟩
 ·obtain⟨x,hx,rfl⟩:=a1d.1 hp
  have:=hl x hx
  exact⟨this.f.valid,this.a.valid,this.b.valid,this.c.valid⟩
 ·rw[a0e]at hi
  rw[hat i (by omega),hat (i+1) (by omega)]
  exact hs i (by omega)
theorem Lk(l:List PcQ)(hl:okC l)(hs:Ag l)(h1:1<=l.length)(h2:l.length<=200):Fz 93 [.sl (l.map PcQ.row)] (.b true):=by
 have:=Z8 (l.map toR) (by rw[a0e];omega)
 rw[Y4,decide_eq_true (Qn hl hs h1 h2)]at this
 exact this
theorem Sum.ok{op:Rat->Rat->Rat}{a b s:List PcQ}{tms:List Rat}(h:Sum op a b tms s)(ha:okC a)(hb:okC b):okC s:=fun p hp=>by
 rw[h.hs]at hp
 obtain⟨t,ht,rfl⟩:=a1d.1 hp
 exact⟨Ko a b ha hb t (h.ht▸ht),Dj _,Dj _,Dj _⟩
theorem Sum.sort{op:Rat->Rat->Rat}{a b s:List PcQ}{tms:List Rat}(h:Sum op a b tms s):Ag s:=fun i hi=>by
 rw[h.len]at hi
 rw[h.at (by omega),h.at hi]
 have hp:tms.Pairwise (· < ·):=by rw[h.ht];exact Od _
 exact a3r.1 hp i (i+1) (by omega) hi (by omega)
theorem Sum.pos{op:Rat->Rat->Rat}{a b s:List PcQ}{tms:List Rat}(h:Sum op a b tms s)(ha0:a≠[]):0<tms.length:=by
 obtain⟨p,hp⟩:∃p,p∈a:=⟨_,a4o (a1i.2 ha0)⟩
 obtain⟨j,hj,_⟩:=h.has (.inl hp)
 omega
theorem A4a(g:FuncId)(op:Rat->Rat->Rat)(hj:∀(p q:Rat)(e:Int),Fits p->Fits q->FnW Tryz.prog g [.i e] [A0 (frR p),A0 (frR q)] [.i (kE (op p q) e)] (A0 (frR (kQ (op p q)))))(a b:List PcQ)(ha:okC a)(hb:okC b)(ha0:a≠[])(hb0:b≠[])(han:a.length<=200)(hbn:b.length<=200)
  (hu:Fz 93 [.sl (a.map PcQ.row)] (.b true)) (hv:Fz 93 [.sl (b.map PcQ.row)] (.b true)) (hz:jEs op a b (An a b)=0) (h2:¬200<(An a b).length):FnOwnT Tryz.prog 246 [.sl (a.map PcQ.row),.sl (b.map PcQ.row),.fn (.func g) [] []] (((An a b).map (jP op a b)).map PcQ.row) 8 (.int .i64 0):=by
 have hla:0<a.length:=a1i.2 ha0
 have hlb:0<b.length:=a1i.2 hb0
 have hlen:(a++b).length=a.length+b.length:=a0s
 have hcat:=Q9 [a,b] (by simp;omega) (by simp;omega) (by simp)
 simp only[a2g,a6o,a3v,List.flatten_nil,a1u]at hcat
 have hfit:=Ko a b ha hb
 have hts:∀q∈(a++b).map (·.f),Fits q:=fun q hq=>hfit q (by rw[An,F5];exact hq)
 have hsort:=Wv ((a++b).map (·.f)) hts (by rw[Ee];omega)
 have hmut:=fun l' hp hs=>Nr ((a++b).map (·.f)) l' hp hs (by rw[Ee];omega)
 have hT0:0<(An a b).length:=by
  obtain⟨x,hx⟩:∃x,x∈a:=⟨_,a4o hla⟩
  have:x.f∈An a b:=by rw[An,F5];exact a1d.2 ⟨x,a0p.2 (.inl hx),rfl⟩
  exact a8m this
 change ∀l' hp hs,FnMut _ _ 2 _ _ (An a b).length (Cp (An a b))at hmut
 generalize An a b=tms at hmut hT0 hfit hz h2⊢
 have hle:((a++b).map PcQ.row).length=(a++b).length:=a0e _
 have hT:=lmA tms frR
 skip
 refine FnOwnT.of Tryz.func246 Tryz.ntmps246 rfl rfl rfl ?_
 simp only[Ak]
 repeat' first|refine WY ?_|refine Zb4 ?_|refine Dv 8 ?_|refine Dw 8 ?_|(apply p0v A8)|refine Zbc ?_|(apply Ords.one (i:=0);decide+kernel;exact rfl)|(apply Ords.one (i:=1);decide+kernel;exact rfl)|(apply Ords.one (i:=2);decide+kernel;exact rfl)|(apply Ords.one (i:=3);decide+kernel;exact rfl)|(apply Ords.one (i:=4);decide+kernel;exact rfl)|(apply Ords.one (i:=5);decide+kernel;exact rfl)|(apply Ords.one (i:=6);decide+kernel;exact rfl)|(apply Ords.one (i:=7);decide+kernel;exact rfl)|(apply Ords.one (i:=8);decide+kernel;exact rfl)|(apply Ords.one (i:=9);decide+kernel;exact rfl)|(apply p0a (i:=0) (j:=1);decide+kernel;exact rfl;exact rfl)|(apply p0a (i:=0) (j:=2);decide+kernel;exact rfl;exact rfl)|(apply p0a (i:=0) (j:=3);decide+kernel;exact rfl;exact rfl)|(apply p0a (i:=0) (j:=4);decide+kernel;exact rfl;exact rfl)|(apply p0a (i:=1) (j:=5);decide+kernel;exact rfl;exact rfl)|(apply p0a (i:=2) (j:=5);decide+kernel;exact rfl;exact rfl)|(apply p0a (i:=3) (j:=5);decide+kernel;exact rfl;exact rfl)|(apply p0a (i:=4) (j:=5);decide+kernel;exact rfl;exact rfl)|(apply p0a (i:=5) (j:=6);decide+kernel;exact rfl;exact rfl)|(apply p0a (i:=4) (j:=6);decide+kernel;exact rfl;exact rfl)|(apply p0a (i:=6) (j:=7);decide+kernel;exact rfl;exact rfl)|(apply p0a (i:=5) (j:=7);decide+kernel;exact rfl;exact rfl)|refine V ?_|refine W2 ?_ ?_<;>intro hc
 refine T.kill 0 ?_
 refine p0c (fun i=>i<=(a++b).length) (fun i=>(a++b).length-i) (fun i=>[(30,.i i),(8,rT 0 2 i),(29,.i ((a++b).map PcQ.row).length),(28,.sl ((a++b).map PcQ.row)),(0,.sl (a.map PcQ.row)),(1,.sl (b.map PcQ.row)),(2,.fn (.func g) [] [])]) (fun i=>[rB (fa (((a++b).map (·.f)).take i)) i]) 0 (a0k _) CW (.dead .nil) ?_
 intro i hi
 by_cases hlt:(i:Int)<(((a++b).map PcQ.row).length:Nat)
 ·obtain⟨x,hx⟩:∃x,(a++b)[i]?=some x:=⟨(a++b)[i]'(by omega),a0b _⟩
  have hb:((a++b).map PcQ.row)[((i:Nat):Int).toNat]?=some x.row:=by rw[a0q,a0d,hx];rfl
  have hxf:((a++b).map (·.f))[i]?=some x.f:=by rw[a0d,hx];rfl
  have hsn:=A52 _ i x.f hxf
  cases i with
  |zero=>
   repeat' first|refine WY ?_|refine Zb0 ?_|refine Zbw ?_|refine V ?_|refine W2 ?_ ?_<;>intro hc
   exact Next.go 1 (by omega) (by omega) CW (by rw[show(1:Nat)=0+1 from rfl,hsn];exact .live rfl .nil)
  |succ i=>
   repeat' first|refine WY ?_|refine Zb0 ?_|(apply p0h;(iterate 8 exact rfl);(rw[Vl,a0x,Ee];omega);exact A9 rfl;exact rfl;exact Aj _ _;simp only[a0j,a0m];omega;simp only[a0j,a0m];omega)|refine V ?_|refine W2 ?_ ?_<;>intro hc
   exact Next.go (i+1+1) (by omega) (by omega) (.cons (by rw[show(((i+1+1:Nat):Int))=((i+1:Nat):Int)+1 by omega];rfl) rfl CW) (by rw[hsn];exact .live (by rw[a2k,Iq];rfl) .nil)
 ·obtain rfl:i=(a++b).length:=by omega
  have hlt':¬((((a++b).map (·.f)).length:Nat):Int)<(((a++b).map PcQ.row).length:Nat):=by rw[Ee];omega
  rw[Gf (by omega),Ge (by omega),<-Ee,a1l]
  have h2':¬(200:Int)<((tms.map frR).length:Nat):=by omega
  repeat' first|refine W ?_|(refine T.freeze 8 rfl rfl (A2a tms) ?_)|(refine T.heat 1 [.i 0] rfl rfl ?_;intro k o)|refine Zbb ?_|(apply p2q;exact rfl;exact rfl;exact hsort;exact rfl;rintro xs' ⟨l',rfl,hp,hs⟩)|(apply p3a (hmut _ hp hs);(iterate 5 exact rfl))|refine V ?_|refine W2 ?_ ?_<;>intro hc
  refine T.kill 2 ?_
  refine p0c (fun i=>i<=tms.length) (fun i=>tms.length-i) (fun i=>[(51,.i i),(12,rT 2 8 i),(50,.i (tms.map frR).length),(49,.sl (tms.map frR)),(11,.ptr 1 0),(0,.sl (a.map PcQ.row)),(1,.sl (b.map PcQ.row)),(2,.fn (.func g) [] [])]) (fun i=>[.dead,.hot k o [.i (jEs op a b (tms.take i))],rB (Ae ((tms.take i).map (jP op a b))) i]) 0 (a0k _) CW (.dead (.hot (.dead .nil))) ?_
  intro i hi
  by_cases hlt:(i:Int)<((tms.map frR).length:Nat)
  ·obtain⟨t,ht⟩:∃t,tms[i]?=some t:=⟨tms[i]'(by omega),a0b _⟩
   have hft:=hfit t (a0a ht)
   have hb2:(tms.map frR)[((i:Nat):Int).toNat]?=some (frR t):=by rw[a0q,a0d,ht];rfl
   have hts1:tms.take (i+1)=tms.take i++[t]:=by rw[a0u,ht];rfl
   have hE:jEs op a b (tms.take (i+1))=jE op a b t (jEs op a b (tms.take i)):=by rw[hts1,jEs,a2o];rfl
   have hP:Ae ((tms.take (i+1)).map (jP op a b))=Ae ((tms.take i).map (jP op a b))++[.i t.num,.i t.den,.i (kQ (op (atP a t).a (atP b t).a)).num,.i (kQ (op (atP a t).a (atP b t).a)).den,.i (kQ (op (atP a t).b (atP b t).b)).num,.i (kQ (op (atP a t).b (atP b t).b)).den,.i (kQ (op (atP a t).c (atP b t).c)).num,.i (kQ (op (atP a t).c (atP b t).c)).den]:=by rw[hts1,a1f,Cg];rfl
   have hPl:((tms.take i).map (jP op a b)).length=i:=by rw[a0e,a0x];omega
   unfold jE at hE
   have ox:=Lq a t ha ha0 hft
   have oy:=Lq b t hb hb0 hft
   generalize jEs op a b (tms.take i)=e0 at hE⊢
   have c1:=Wx a t e0 ha ha0 (by omega) hft
   generalize Eu a t e0=e1 at hE c1
   have c2:=Wx b t e1 hb hb0 (by omega) hft
   generalize Eu b t e1=e2 at hE c2
   generalize atP a t=x at hE hP c1 ox
   generalize atP b t=y at hE hP c2 oy
   have c3:=hj x.a y.a e2 ox.a oy.a
   have f3:=Dj (op x.a y.a)
   generalize kE (op x.a y.a) e2=e3 at hE c3
   generalize kQ (op x.a y.a)=p3 at hP c3 f3
   have c4:=hj x.b y.b e3 ox.b oy.b
   generalize kE (op x.b y.b) e3=e4 at hE c4
   generalize kQ (op x.b y.b)=p4 at hP c4
   have c5:=hj x.c y.c e4 ox.c oy.c
   generalize kE (op x.c y.c) e4=e5 at hE c5
   generalize kQ (op x.c y.c)=p5 at hP c5
   cases i with
   |zero=>
    repeat' first|refine WY ?_|refine Zbl ?_|refine Zbm ?_|refine Zb9 ?_|refine Zba ?_|refine Zb3 c1 ?_|refine Zb1 c1 ?_|refine Zb3 c2 ?_|refine Zb1 c2 ?_|refine Zb3 c3 ?_|refine Zb1 c3 ?_|refine Zb3 c4 ?_|refine Zb1 c4 ?_|refine Zb3 c5 ?_|refine Zb1 c5 ?_|refine Zb0 ?_|refine Zbk ?_|refine Dv 25 ?_|refine Dw 25 ?_|refine Da ?_|refine V ?_|refine W2 ?_ ?_<;>intro hc
    exact Next.go 1 (by omega) (by omega) CW (by rw[show(1:Nat)=0+1 from rfl,hP,hE];exact .dead (.hot (.live rfl .nil)))
   |succ i=>
    repeat' first|refine WY ?_|refine Zbl ?_|refine Zbm ?_|refine Zb9 ?_|refine Zba ?_|refine Zb3 c1 ?_|refine Zb1 c1 ?_|refine Zb3 c2 ?_|refine Zb1 c2 ?_|refine Zb3 c3 ?_|refine Zb1 c3 ?_|refine Zb3 c4 ?_|refine Zb1 c4 ?_|refine Zb3 c5 ?_|refine Zb1 c5 ?_|refine Zb0 ?_|(apply p0h;(iterate 8 exact rfl);(rw[Az,hPl]);exact A9 rfl;exact rfl;exact Aj _ _;simp only[a0j,a0m];omega;simp only[a0j,a0m];omega)|refine Dv 25 ?_|refine Dw 25 ?_|refine Da ?_|refine V ?_|refine W2 ?_ ?_<;>intro hc
    exact Next.go (i+1+1) (by omega) (by omega) (.cons (by rw[show(((i+1+1:Nat):Int))=((i+1:Nat):Int)+1 by omega];rfl) rfl CW) (by rw[hP,hE];exact .dead (.hot (.live (by rw[a2k,Bn];rfl) .nil)))
  ·obtain rfl:i=tms.length:=by omega
   rw[Gf hT0,Ge hT0,a1l]
   rw[hz]
   have hll:tms.length=((tms.map (jP op a b)).map PcQ.row).length:=by rw[a0e,a0e]
   repeat' first|refine WY ?_|refine Zbl ?_|refine Zbm ?_|refine Zb9 ?_|refine Zba ?_|refine V ?_|refine W2 ?_ ?_<;>intro hc
   apply T.ret
   change V5 _ _ _ _ _ _ _
   refine⟨.inr rfl,2,.cons ?_ (.cons (.tmp rfl) .nil),rfl⟩
   rw[<-hll]
   exact .tmp rfl
theorem Aeg(a b:List PcQ)(ha:okC a)(hb:okC b)(ha0:a≠[])(hb0:b≠[])(han:a.length<=200)(hbn:b.length<=200)
  (hu:Fz 93 [.sl (a.map PcQ.row)] (.b true)) (hv:Fz 93 [.sl (b.map PcQ.row)] (.b true)) (hz:jEs (· - ·) a b (An a b)=0) (h2:¬200<(An a b).length):
  FnOwnT Tryz.prog 178 [.sl (a.map PcQ.row),.sl (b.map PcQ.row)] (((An a b).map (jP (· - ·) a b)).map PcQ.row) 8 (.int .i64 0):=by
 have c:=A4a 148 (· - ·) (fun p q e hp hq=>T2 p q e hp hq) a b ha hb ha0 hb0 han hbn hu hv hz h2
 refine FnOwnT.of Tryz.func178 Tryz.ntmps178 rfl rfl rfl ?_
 simp only[Ak]
 repeat' first|refine W ?_|(apply p2p 0 c;(iterate 6 exact rfl);exact Ix _)|refine V ?_|refine W2 ?_ ?_<;>intro hc
 apply T.ret
 change V5 _ _ _ _ _ _ _
 exact⟨.inr rfl,0,.cons (.tmp rfl) (.cons (.tmp rfl) .nil),rfl⟩
def As(s:SetR):Rat:=(Bh s:Int)
theorem A9z(s:SetR):frR (As s)=[.i (Bh s),.i 1]:=by
 unfold frR As
 rw[Rat.num_intCast,Rat.den_intCast]
 rfl
theorem Uc{s:SetR}(hs:Cb s):0<=Bh s/\Bh s<=1048576:=by
 rw[<-Vp]
 exact(Kx hs).hang
theorem P1{s:SetR}(hs:Cb s):Fits (As s):=by
 have:=Uc hs
 unfold Fits As
 rw[Rat.num_intCast,Rat.den_intCast]
 omega
def sbL(x y:List PcQ):List PcQ:=(An x y).map (jP (· - ·) x y)
def lwE(x y:List PcQ)(by_:Rat):Int:=if Cr (· - ·) x y=0 then(if ∀p∈sbL x y,Fits (p.a-by_)then 0 else 5)else Cr (· - ·) x y
def lwL(x y:List PcQ)(by_:Rat):List PcQ:=if lwE x y by_=0 then(sbL x y).map (D9 by_)else[]
def dsE(ha hb:Rat)(x y:List PcQ):Int:=
 if atE x 0 0=0 then(if atE y 0 0=0 then(if Fits (atQ x 0-atQ y 0)then(if Fits (atQ x 0-atQ y 0-ha)then(if 0<=atQ x 0-atQ y 0-ha then lwE x y ha else lwE y x hb)else 5)else 5)else atE y 0 0)else atE x 0 0
def dsL(ha hb:Rat)(x y:List PcQ):List PcQ:=
 if atE x 0 0=0 then(if atE y 0 0=0 then(if Fits (atQ x 0-atQ y 0)then(if Fits (atQ x 0-atQ y 0-ha)then(if 0<=atQ x 0-atQ y 0-ha then lwL x y ha else lwL y x hb)else[])else[])else[])else[]
def Jc(a b:SetR)(x y:List PcQ)(te:Rat):AV:=if Cu a b/\¬(Bh a=0/\Bh b=0)then(if dsE (As a) (As b) x y=0 then By (dsL (As a) (As b) x y) 0 te else spE (dsE (As a) (As b) x y))else spE 12
theorem Jd{op:Rat->Rat->Rat}{a b:List PcQ}(h:Cr op a b=0):¬200<(An a b).length/\jEs op a b (An a b)=0:=by
 unfold Cr at h
 split at h
 ·cases h
 ·exact⟨by assumption,h⟩
theorem A33{x y:List PcQ}(h:Cr (· - ·) x y=0):Sum (· - ·) x y (An x y) (sbL x y):=⟨rfl,rfl,(Jd h).2⟩
theorem Ai3{by_:Rat}{l:List PcQ}(h:okC l)(hf:∀p∈l,Fits (p.a-by_)):okC (l.map (D9 by_)):=fun p hp=>by
 obtain⟨q,hq,rfl⟩:=a1d.1 hp
 obtain⟨h1,_,h3,h4⟩:=h q hq
 exact⟨h1,hf q hq,h3,h4⟩
structure Dst(x y:List PcQ)(by_:Rat)(l:List PcQ):Prop where
 ok:okC l
 sort:Ag l
 ne:l≠[]
 len:l.length<=200
 val:∀t,vaX l t=vaX x t-vaX y t-by_
theorem Aa9{x y:List PcQ}{by_:Rat}(hx:okC x)(hy:okC y)(hx0:x≠[])(hy0:y≠[])(hsx:Ag x)(hsy:Ag y)(h:lwE x y by_=0):Dst x y by_ (lwL x y by_):=by
 unfold lwL
 rw[if_pos h]
 unfold lwE at h
 split at h
 ·rename_i hj
  split at h
  ·rename_i hf
   have hS:=A33 hj
   have hl:=hS.len
   have hp:=hS.pos hx0
   have h0:sbL x y≠[]:=fun e=>by rw[e]at hl;simp at hl;omega
   refine⟨Ai3 (hS.ok hx hy) hf,Ado hS.sort,fun e=>h0 (a7u.1 e),?_,fun t=>?_⟩
   ·rw[a0e]
    have:=(Jd hj).1
    omega
   ·rw[Aa7 h0,hS.value (c:=(-1)) (fun p q=>by grind) hsx hsy hx0 hy0 t]
  ·cases h
 ·rename_i hj
  exact absurd h hj
theorem Ahy{ha hb:Rat}{x y:List PcQ}(hx:okC x)(hy:okC y)(hx0:x≠[])(hy0:y≠[])(hsx:Ag x)(hsy:Ag y)(h:dsE ha hb x y=0):Dst x y ha (dsL ha hb x y)\/Dst y x hb (dsL ha hb x y):=by
 unfold dsL
 unfold dsE at h
 by_cases e1:atE x 0 0=0
 ·rw[if_pos e1]at h⊢
  by_cases e2:atE y 0 0=0
  ·rw[if_pos e2]at h⊢
   by_cases e3:Fits (atQ x 0-atQ y 0)
   ·rw[if_pos e3]at h⊢
    by_cases e4:Fits (atQ x 0-atQ y 0-ha)
    ·rw[if_pos e4]at h⊢
     by_cases e5:0<=atQ x 0-atQ y 0-ha
     ·rw[if_pos e5]at h⊢
      exact .inl (Aa9 hx hy hx0 hy0 hsx hsy h)
     ·rw[if_neg e5]at h⊢
      exact .inr (Aa9 hy hx hy0 hx0 hsy hsx h)
    ·rw[if_neg e4]at h;cases h
   ·rw[if_neg e3]at h;cases h
  ·rw[if_neg e2]at h;exact absurd h e2
 ·rw[if_neg e1]at h;exact absurd h e1
theorem A9n{ha hb:Rat}{x y:List PcQ}(hx:okC x)(hy:okC y)(hx0:x≠[])(hy0:y≠[])(hsx:Ag x)(hsy:Ag y)(h:dsE ha hb x y=0):okC (dsL ha hb x y)/\Ag (dsL ha hb x y)/\dsL ha hb x y≠[]/\(dsL ha hb x y).length<=200:=by
 rcases Ahy hx hy hx0 hy0 hsx hsy h with h|h
 ·exact⟨h.ok,h.sort,h.ne,h.len⟩
 ·exact⟨h.ok,h.sort,h.ne,h.len⟩
theorem Ql:∀(l:List PcQ)(i:Nat)(x:PcQ),l[i]?=some x->((Ae l).drop (i*8+2)).take 2=[.i x.a.num,.i x.a.den]
 |[],i,x,h=>by simp at h
 |y::l,0,x,h=>by
  simp only[a2f,a0h]at h
  subst h
  rfl
 |y::l,i+1,x,h=>by
  rw[C3,show(i+1)*8+2=(y.row.map AV.lf).length+(i*8+2) by simp[PcQ.row];omega,b0p]
  exact Ql l i x (by simpa using h)
theorem T7:∀(l:List PcQ)(i:Nat)(x:PcQ)(v:Rat),l[i]?=some x->Bk (i*8+2) [.i v.num,.i v.den] (Ae l)=Ae (l.set i ⟨x.f,v,x.b,x.c⟩)
 |[],i,x,v,h=>by simp at h
 |y::l,0,x,v,h=>by
  simp only[a2f,a0h]at h
  subst h
  rw[a5f,C3,C3]
  simp[PcQ.row,Bk,G9]
 |y::l,i+1,x,v,h=>by
  rw[a5e,C3,C3,<-T7 l i x v (by simpa using h),show(i+1)*8+2=(i*8+2)+8 by omega]
  simp[PcQ.row,Bk]
def lwM(by_:Rat)(c:List PcQ)(i:Nat):List PcQ:=(c.take i).map (D9 by_)++c.drop i
theorem A5k(by_:Rat)(c:List PcQ)(i:Nat)(x:PcQ)(h:c[i]?=some x):(lwM by_ c i)[i]?=some x:=by
 have:=(a0f.1 h).1
 rw[lwM,a1h (by simp;omega),a2r,a0e,a0x,show i+(i-min i c.length)=i by omega,h]
theorem Aga(by_:Rat)(c:List PcQ)(i:Nat)(h:i<=c.length):(lwM by_ c i).length=c.length:=by
 rw[lwM,a0s,a0e,a0x,a4z];omega
theorem Agb(by_:Rat)(c:List PcQ)(i:Nat)(x:PcQ)(h:c[i]?=some x):(lwM by_ c i).set i (D9 by_ x)=lwM by_ c (i+1):=by
 have hi:=(a0f.1 h).1
 have hl:((c.take i).map (D9 by_)).length=i:=by rw[a0e,a0x];omega
 rw[lwM,lwM,a7l _ _ (by omega),hl,a6q,a0u,h]
 rw[a6i hi,a5f]
 simp
theorem Tb(x y:List PcQ)(by_:Rat)(hx:okC x)(hy:okC y)(hx0:x≠[])(hy0:y≠[])(hxn:x.length<=200)(hyn:y.length<=200)(hf:Fits by_)
  (hu:Fz 93 [.sl (x.map PcQ.row)] (.b true)) (hv:Fz 93 [.sl (y.map PcQ.row)] (.b true)):
  Fz 97 [.sl (x.map PcQ.row),.sl (y.map PcQ.row),A0 (frR by_)] (.tup [.sl ((lwL x y by_).map PcQ.row),.i (lwE x y by_)]):=by
 by_cases hj:Cr (· - ·) x y=0
 ·obtain⟨h2,hz⟩:=Jd hj
  have c1:=Aeg x y hx hy hx0 hy0 hxn hyn hu hv hz h2
  have hS:=A33 hj
  have hok:=hS.ok hx hy
  have hcl:(sbL x y).length<=200:=by have:=hS.len;omega
  unfold lwL lwE
  rw[if_pos hj]
  change FnOwnT _ _ _ ((sbL x y).map PcQ.row) _ _ at c1
  generalize sbL x y=c at c1 hok hcl⊢
  clear hu hv hz h2 hS hj
  have hle:=lmA c PcQ.row
  skip
  refine Fo Tryz.func97 ?_
  repeat' first|refine W ?_|(apply p2p 1 c1;(iterate 6 exact rfl);exact Ix _)|refine Da ?_|refine Zbb ?_|refine V ?_|refine W2 ?_ ?_<;>intro hc
  refine p0c (fun i=>i<=c.length/\∀p∈c.take i,Fits (p.a-by_)) (fun i=>c.length-i) (fun i=>[(22,.i i),(21,.i (c.map PcQ.row).length),(8,.own 1 0 (c.map PcQ.row).length 8),(5,.ptr 0 0)]) (fun i=>[.live [.i by_.num,.i by_.den],.live (Ae (lwM by_ c i))]) 0 ⟨a0k _,by simp⟩ CW (.live rfl (.live (Bn _ c) .nil)) ?_
  rintro i ⟨hi,hfi⟩
  by_cases hlt:(i:Int)<((c.map PcQ.row).length:Nat)
  ·obtain⟨p,hp⟩:∃p,c[i]?=some p:=⟨c[i]'(by omega),a0b _⟩
   have hmem:=a0a hp
   have hld:=Ql _ i p (A5k by_ c i p hp)
   have hll:=Aga by_ c i hi
   have cs:=Hs p.a by_ (hok p hmem).a hf
   unfold Bg at cs
   by_cases hF:Fits (p.a-by_)
   ·rw[if_pos hF]at cs
    have hst:=T7 _ i p (p.a-by_) (A5k by_ c i p hp)
    have hsm:=Agb by_ c i p hp
    unfold D9 at hsm
    rw[hsm]at hst
    have hf':∀q∈c.take (i+1),Fits (q.a-by_):=fun q hq=>by
     rw[a0u,hp]at hq
     rcases a0p.1 hq with hq|hq
     ·exact hfi q hq
     ·obtain rfl:q=p:=by simpa using hq
      exact hF
    repeat' first|refine WY ?_|(apply p4i (o2:=i*8);(iterate 3 exact rfl);decide+kernel;exact rfl;omega;omega)|(apply p4d;(iterate 3 exact rfl);decide+kernel;exact rfl)|(apply p3t;exact rfl;exact rfl;decide+kernel;exact rfl)|(apply p4j;(iterate 3 exact rfl);decide+kernel;exact rfl;exact hld;(rw[Az];omega))|(apply p3x;(iterate 6 exact rfl);(rw[Az];omega);exact rfl)|refine Dn 1 16 ?_|refine Dx 1 16 ?_|refine Da ?_|refine V ?_|refine W2 ?_ ?_<;>intro hc
    exact Next.go (i+1) ⟨by omega,hf'⟩ (by omega) (.cons (by rw[show(((i+1:Nat):Int))=(i:Int)+1 by omega];rfl) rfl CW) (.live rfl (p1v hst (Bn _ _) .nil))
   ·rw[if_neg hF]at cs
    have hno:¬∀p∈c,Fits (p.a-by_):=fun h=>hF (h p hmem)
    rw[if_neg hno,if_neg (show ¬(5:Int)=0 by decide)]
    repeat' first|refine WY ?_|(apply p4i (o2:=i*8);(iterate 3 exact rfl);decide+kernel;exact rfl;omega;omega)|(apply p4d;(iterate 3 exact rfl);decide+kernel;exact rfl)|(apply p3t;exact rfl;exact rfl;decide+kernel;exact rfl)|(apply p4j;(iterate 3 exact rfl);decide+kernel;exact rfl;exact hld;(rw[Az];omega))|(apply p3x;(iterate 6 exact rfl);(rw[Az];omega);exact rfl)|refine Dn 1 16 ?_|refine Dx 1 16 ?_|refine Da ?_|refine Zb7 ?_|refine V ?_|refine W2 ?_ ?_<;>intro hc
    all_goals exact D2 rfl rfl rfl
  ·obtain rfl:i=c.length:=by omega
   rw[a1l]at hfi
   rw[if_pos hfi,if_pos rfl]
   have hfin:lwM by_ c c.length=c.map (D9 by_):=by rw[lwM,a1l,List.drop_length,a1u]
   have hown:=K0 (c.map (D9 by_))
   rw[a0e,<-hle]at hown
   rw[hfin]
   repeat' first|refine WY ?_|(refine T.freeze 8 rfl rfl hown ?_)|refine V ?_|refine W2 ?_ ?_<;>intro hc
   exact D2 rfl rfl rfl
 ·have c1:=Agr x y hx hy hx0 hy0 hxn hyn hu hv
  have hl:lwE x y by_=Cr (· - ·) x y:=if_neg hj
  unfold lwL
  rw[hl,if_neg hj]
  generalize Cr (· - ·) x y=e at*
  generalize F4 (· - ·) x y=l at*
  refine Fo Tryz.func97 ?_
  repeat' first|refine WY ?_|refine Da ?_|refine Zb7 ?_|refine V ?_|refine W2 ?_ ?_<;>intro hc
  all_goals exact D2 rfl rfl rfl
end Go.Proofs.YtcaicpnepfjcmaaGreat
