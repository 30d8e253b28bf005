/- Lemmas of the proof. -/
import Derived.Test.YtcaicpnepfjcmaaGreatNi
set_option linter.all false
set_option maxHeartbeats 64000000
namespace Go.Proofs.YtcaicpnepfjcmaaGreat
open Go Go.RowKit
def ptA(A:List PcQ)(fr:Rat)(i:Nat):Rat:=if 0<i/\fr<(A6 A i).f then(A6 A i).f else fr
def ptB(A:List PcQ)(te:Rat)(i:Nat):Rat:=if i+1<A.length/\(A6 A (i+1)).f<te then(A6 A (i+1)).f else te
def B8(A:List PcQ)(fr te:Rat)(i:Nat):Prop:=te<ptA A fr i\/i+1<A.length/\(A6 A (i+1)).f<=ptA A fr i
instance (A:List PcQ)(fr te:Rat)(i:Nat):Decidable (B8 A fr te i):=by unfold B8;exact inferInstance
def D0(A:List PcQ)(fr te:Rat)(i:Nat):Option (List Lf):=
 if B8 A fr te i then none else if vR (A6 A i) (ptA A fr i)<0 then some (enQ (ptA A fr i))else if C6 (A6 A i) (ptA A fr i) (ptB A te i)then some (Ig (A6 A i) (ptA A fr i) (ptB A te i))else none
def Fa(A:List PcQ)(fr te:Rat):Nat->Option (List Lf)
 |0=>none
 |k+1=>match Fa A fr te k with
  |some r=>some r
  |none=>D0 A fr te k
theorem H8{A:List PcQ}{fr te:Rat}{k:Nat}{r:List Lf}(h:Fa A fr te k=some r):∀n,k<=n->Fa A fr te n=some r:=by
 intro n hn
 induction n with
 |zero=>obtain rfl:k=0:=by omega
        exact h
 |succ n ih=>
  by_cases e:k=n+1
  ·subst e;exact h
  ·rw[Fa,ih (by omega)]
def A5(l:List PcQ)(fr:Rat):List PcQ:=⟨fr,(A6 l 0).a,0,0⟩::l
def By(l:List PcQ)(fr te:Rat):AV:=match Fa (A5 l fr) fr te (A5 l fr).length with
 |some r=>.tup [A0 r,.i 0]
 |none=>spE 12
def sp2(r:List Lf):Prop:=∃x y,r=[.i x,.i y]
theorem Vi(q:Rat):sp2 (enQ q):=by unfold enQ;split<;>exact⟨_,_,rfl⟩
theorem Sb(p:PcQ)(a b:Rat):sp2 (Ig p a b):=by unfold Ig;split<;>exact⟨_,_,rfl⟩
theorem Ya(l:List PcQ)(fr:Rat):(A5 l fr).map PcQ.row=PcQ.row ⟨fr,(A6 l 0).a,0,0⟩::l.map PcQ.row:=rfl
theorem Agp(l:List PcQ):(l.map PcQ.row).flatten.all Lf.one=true:=by
 rw[a0l]
 intro x hx
 obtain⟨r,hr,hx⟩:=a7q.1 hx
 obtain⟨p,_,rfl⟩:=a1d.1 hr
 simp only[PcQ.row,a1q,a2t,or_false]at hx
 rcases hx with rfl|rfl|rfl|rfl|rfl|rfl|rfl|rfl<;>rfl
theorem Aft(l:List PcQ)(fr:Rat):OwnRows ((PcQ.row ⟨fr,(A6 l 0).a,0,0⟩).map AV.lf++(l.map PcQ.row).flatten.map AV.lf) 0 (1+(l.map PcQ.row).length) 8 ((A5 l fr).map PcQ.row):=by
 have:=OwnRows.of ((A5 l fr).map PcQ.row).flatten (A5t (A5 l fr)) rfl
 rw[show((A5 l fr).map PcQ.row).length=1+(l.map PcQ.row).length by rw[Ya,a0j];omega,Ya,a3v,a1f]at this
 exact this
theorem Aax(l:List PcQ)(fr te:Rat)(hl:okC l)(h0:l≠[])(hn:l.length<=200)(hf:Fits fr)(ht:Fits te)(hv:Fz 93 [.sl (l.map PcQ.row)] (.b true))(hle:fr<=te)(hr1:C2 fr)(hr2:C2 te):
  Fz 54 [.sl (l.map PcQ.row),A0 (frR fr),A0 (frR te)] (By l fr te):=by
 have v1:Fz 71 [A0 (frR fr)] (.b true):=by
  have:=I3 fr.num fr.den
  rwa[hf.valid]at this
 have v2:Fz 71 [A0 (frR te)] (.b true):=by
  have:=I3 te.num te.den
  rwa[ht.valid]at this
 have c:=Ch fr te hf ht
 have r1:=Wi fr hf
 have r2:=Wi te ht
 have z:=Pk
 have k0:¬0<Ay fr te:=fun h=>a1j.2 hle ((He _ _).1 h)
 have n1:¬¬C2 fr:=fun h=>h hr1
 have n2:¬¬C2 te:=fun h=>h hr2
 have hll:=lmA l PcQ.row
 have hpos:0<l.length:=a1i.2 h0
 obtain⟨x0,hx0⟩:∃x,l[0]?=some x:=⟨l[0]'hpos,a0b _⟩
 have hb0:(l.map PcQ.row)[(0:Int).toNat]?=some x0.row:=by rw[show(0:Int).toNat=0 from rfl,a0d,hx0];rfl
 have hp0:A6 l 0=x0:=Bs hx0
 have hA:okC (A5 l fr):=by
  intro p hp
  rcases a1q.1 hp with rfl|hp
  ·exact⟨hf,by rw[hp0];exact(hl x0 (a0a hx0)).a,Fits.zero,Fits.zero⟩
  ·exact hl p hp
 have hlen:(A5 l fr).length=l.length+1:=rfl
 refine Fn0.of Tryz.func54 Tryz.ntmps54 rfl rfl rfl ?_
 simp only[Ak]
 repeat' first|refine W ?_|(apply S.call;exact rfl;exact rfl;exact hv;exact rfl)|(apply S.call;exact rfl;exact rfl;exact v1;exact rfl)|(apply S.call;exact rfl;exact rfl;exact v2;exact rfl)|(apply S.call;exact rfl;exact rfl;exact c;exact rfl)|(apply S.call;exact rfl;exact rfl;exact r1;exact rfl)|(apply S.call;exact rfl;exact rfl;exact r2;exact rfl)|(apply S.call;exact rfl;exact rfl;exact z;exact rfl)|(apply S.indexR;(iterate 3 exact rfl);exact hb0;omega;exact rfl)|refine Dw 10 ?_|(apply p0x;(iterate 6 exact rfl))|(apply p0h;(iterate 9 exact rfl);exact A5t l;exact Agp l;exact rfl;(rw[hll];omega);(rw[hll];omega))|(refine T.freeze 8 rfl rfl (hp0▸Aft l fr) ?_)|refine V ?_|refine W2 ?_ ?_<;>intro hc
 refine p0c (fun i=>i<=(A5 l fr).length/\Fa (A5 l fr) fr te i=none) (fun i=>(A5 l fr).length-i) (fun i=>[(58,.i (i:Int)),(57,.i ((((A5 l fr).map PcQ.row).length:Nat):Int)),(56,.sl ((A5 l fr).map PcQ.row)),(8,.sl ((A5 l fr).map PcQ.row)),(4,.ptr 0 0),(5,.ptr 1 0),(6,.ptr 2 0)]) (fun i=>[.live ((frR fr).map .lf),.live ((frR te).map .lf),.live [.i 0,.i 0],.dead]) 0 ⟨a0k _,rfl⟩ (.cons rfl rfl CW) CG ?_
 rintro i ⟨hi,hsc⟩
 have hlr:((A5 l fr).map PcQ.row).length=(A5 l fr).length:=a0e _
 by_cases hlt:i<(A5 l fr).length
 ·have h1:(i:Int)<((((A5 l fr).map PcQ.row).length:Nat):Int):=by omega
  obtain⟨x,hx⟩:=A2 hlt
  have hbx:=A3 (R:=PcQ.row) hx
  have okx:=hA x (a0a hx)
  have px:A6 (A5 l fr) i=x:=Bs hx
  have ca:=Ch x.f fr okx.f hf
  have ka:=He x.f fr
  have hsn:Fa (A5 l fr) fr te (i+1)=D0 (A5 l fr) fr te i:=by rw[Fa,hsc]
  obtain⟨a,ha⟩:∃a,a=ptA (A5 l fr) fr i:=⟨_,rfl⟩
  obtain⟨b,hb⟩:∃b,b=ptB (A5 l fr) te i:=⟨_,rfl⟩
  have hfa:Fits a:=by
   rw[ha];unfold ptA;split
   ·rw[px];exact okx.f
   ·exact hf
  have hage:fr<=a:=by
   rw[ha];unfold ptA;split
   ·rename_i h;exact a1e h.2
   ·exact a2i
  have cta:=Ch a te hfa ht
  have kta:=He a te
  have oa:=Ja a hfa
  have cp:=Aj2 x.f x.a x.b x.c okx.f okx.a okx.b okx.c
  have cv:=Pg x.pt (Ex.ofQ a) okx.pt (bd_ofQ hfa)
  have cs:Fz 104 [A0 (exR (x.pt.value (Ex.ofQ a)))] (.i (sgQ (x.pt.value (Ex.ofQ a)).val)):=Eg (Og okx.pt (bd_ofQ hfa))
  have kv:sgQ (x.pt.value (Ex.ofQ a)).val<0↔vR x a<0:=by rw[Hv,Sm (bd_ofQ hfa).2.2,Ex.val_ofQ]
  generalize sgQ (x.pt.value (Ex.ofQ a)).val=sv at cs kv
  by_cases hi0:(0:Int)<(i:Int)
  ·have hAx:∀h:fr<x.f,a=x.f:=fun h=>by rw[ha,ptA,if_pos ⟨by omega,by rw[px];exact h⟩,px]
   have hAx':∀h:¬fr<x.f,a=fr:=fun h=>by rw[ha,ptA,if_neg fun e=>h (by rw[<-px];exact e.2)]
   by_cases hlast:i+1<(A5 l fr).length
   ·have h2:(i:Int)+1<((((A5 l fr).map PcQ.row).length:Nat):Int):=by omega
    obtain⟨y,hy⟩:=A2 hlast
    have hby:((A5 l fr).map PcQ.row)[((i:Int)+1).toNat]?=some y.row:=by rw[show((i:Int)+1).toNat=i+1 by omega,a0d,hy];rfl
    have oky:=hA y (a0a hy)
    have py:A6 (A5 l fr) (i+1)=y:=Bs hy
    have cb:=Ch y.f te oky.f ht
    have kb:=Dr y.f te
    have cay:=Ch a y.f hfa oky.f
    have kay:=A4t a y.f
    have hfb:Fits b:=by
     rw[hb];unfold ptB;split
     ·rw[py];exact oky.f
     ·exact ht
    have hB:∀h:y.f<te,b=y.f:=fun h=>by rw[hb,ptB,if_pos ⟨hlast,by rw[py];exact h⟩,py]
    have hB':∀h:¬y.f<te,b=te:=fun h=>by rw[hb,ptB,if_neg fun e=>h (by rw[<-py];exact e.2)]
    have hO:B8 (A5 l fr) fr te i↔te<a\/y.f<=a:=by rw[B8,<-ha,py];exact⟨fun h=>h.imp_right And.right,fun h=>h.imp_right fun e=>⟨hlast,e⟩⟩
    have hrg:¬B8 (A5 l fr) fr te i->a<=te:=fun h=>a1j.1 fun e=>h (hO.2 (.inl e))
    have hab:¬B8 (A5 l fr) fr te i->a<=b:=fun h=>by
     by_cases e:y.f<te
     ·rw[hB e];exact a1e (a2w.1 fun e2=>h (hO.2 (.inr e2)))
     ·rw[hB' e];exact hrg h
    have hbt:b<=te:=by
     by_cases e:y.f<te
     ·rw[hB e];exact a1e e
     ·rw[hB' e];exact a2i
    have ob:=Ja b hfb
    have cbl:=K2 x.pt (Ex.ofQ a) (Ex.ofQ b) okx.pt (bd_ofQ hfa) (bd_ofQ hfb)
    have kbl:x.pt.belowS (Ex.ofQ a) (Ex.ofQ b)↔C6 x a b:=by rw[F0 (bd_ofQ hfa).2.2 (bd_ofQ hfb).2.2,Ex.val_ofQ,Ex.val_ofQ]
    have hst:¬B8 (A5 l fr) fr te i->D0 (A5 l fr) fr te i=if vR x a<0 then some (enQ a)else if C6 x a b then some (Ig x a b)else none:=fun h=>by rw[D0,if_neg h,px,<-ha,<-hb]
    have hout:B8 (A5 l fr) fr te i->D0 (A5 l fr) fr te i=none:=fun h=>by rw[D0,if_pos h]
    have hm:¬B8 (A5 l fr) fr te i->Mid a/\Mid b:=fun h=>⟨H6 hfa ⟨a1c hr1.1 hage,a1c (hrg h) hr2.2⟩,H6 hfb ⟨a1c hr1.1 (a1c hage (hab h)),a1c hbt hr2.2⟩⟩
    by_cases hO1:B8 (A5 l fr) fr te i
    ·as_aux_lemma=>
     repeat' first|refine W ?_|(apply S.arith;(iterate 4 exact rfl);omega)|(apply S.call;exact rfl;exact rfl;exact ca;exact rfl)|(apply S.call;exact rfl;exact rfl;exact cta;exact rfl)|(apply S.indexR;(iterate 3 exact rfl);exact hbx;omega;exact rfl)|(apply S.indexR;(iterate 3 exact rfl);exact hby;omega;exact rfl)|(apply S.call;exact rfl;exact rfl;exact cb;exact rfl)|(apply S.call;exact rfl;exact rfl;exact cay;exact rfl)|(apply p0i;(iterate 4 exact rfl))|(refine p1f 10 ([(9,.i (i:Int)),(10,.ptr 4 0),(11,.ptr 5 0),(12,.ptr 6 0),(58,.i (i:Int)),(57,.i ((((A5 l fr).map PcQ.row).length:Nat):Int)),(56,.sl ((A5 l fr).map PcQ.row)),(8,.sl ((A5 l fr).map PcQ.row)),(4,.ptr 0 0),(5,.ptr 1 0),(6,.ptr 2 0)]) ([.live ((frR fr).map .lf),.live ((frR te).map .lf),.live [.i 0,.i 0],.dead,.live (x.row.map .lf),.live ((frR (a)).map .lf),.live ((frR (te)).map .lf)]) ?_ ?_)|(refine p1f 12 ([(9,.i (i:Int)),(10,.ptr 4 0),(11,.ptr 5 0),(12,.ptr 6 0),(58,.i (i:Int)),(57,.i ((((A5 l fr).map PcQ.row).length:Nat):Int)),(56,.sl ((A5 l fr).map PcQ.row)),(8,.sl ((A5 l fr).map PcQ.row)),(4,.ptr 0 0),(5,.ptr 1 0),(6,.ptr 2 0)]) ([.live ((frR fr).map .lf),.live ((frR te).map .lf),.live [.i 0,.i 0],.dead,.live (x.row.map .lf),.live ((frR (a)).map .lf),.live ((frR (b)).map .lf)]) ?_ ?_)|refine Da ?_|refine Dv 16 ?_|refine Dv 22 ?_|refine V ?_|refine W2 ?_ ?_<;>intro hc
     all_goals first
      |exact p1k (.cons rfl rfl (.cons rfl rfl (.cons rfl rfl CW))) (by rw[hAx (ka.1 (by assumption))];exact CG)
      |exact p1k (.cons rfl rfl (.cons rfl rfl (.cons rfl rfl CW))) (by rw[hAx' (fun e=>absurd (ka.2 e) (by assumption))];exact CG)
      |exact p1k (.cons rfl rfl (.cons rfl rfl (.cons rfl rfl CW))) (by rw[hB (kb.1 (by assumption))];exact CG)
      |exact p1k (.cons rfl rfl (.cons rfl rfl (.cons rfl rfl CW))) (by rw[hB' (fun e=>absurd (kb.2 e) (by assumption))];exact CG)
      |(change Next _ _ _ _ _ _;exact Next.go (i+1) ⟨by omega,by rw[hsn,hout hO1]⟩ (by omega) (.cons rfl rfl CW) CG)
      |(exfalso;rcases hO.1 hO1 with e|e;exact absurd (kta.2 e) (by assumption);exact absurd (kay.2 e) (by assumption))
    ·as_aux_lemma=>
     have q1:¬0<Ay a te:=fun e=>hO1 (hO.2 (.inl (kta.1 e)))
     have q2:¬0<=Ay a y.f:=fun e=>hO1 (hO.2 (.inr (kay.1 e)))
     obtain⟨ma,mb⟩:=hm hO1
     have cen:=Jk a ma
     have cf:=Pf x a b okx ma mb (hab hO1)
     obtain⟨u1,u2,hu⟩:=Vi a
     obtain⟨w1,w2,hw⟩:=Sb x a b
     have hs:=hst hO1
     rw[hu]at cen hs
     rw[hw]at cf hs
     have way:(vR x a<0/\sv<0)\/(¬vR x a<0/\¬sv<0/\C6 x a b/\x.pt.belowS (Ex.ofQ a) (Ex.ofQ b))\/(¬vR x a<0/\¬sv<0/\¬C6 x a b/\¬x.pt.belowS (Ex.ofQ a) (Ex.ofQ b)):=by
      by_cases hv0:vR x a<0
      ·exact .inl ⟨hv0,kv.2 hv0⟩
      ·have k:=fun e=>hv0 (kv.1 e)
       by_cases hbl:C6 x a b
       ·exact .inr (.inl ⟨hv0,k,hbl,kbl.2 hbl⟩)
       ·exact .inr (.inr ⟨hv0,k,hbl,fun e=>hbl (kbl.1 e)⟩)
     rcases way with⟨hv0,hv0'⟩|⟨hv0,hv0',hbl,hbl'⟩|⟨hv0,hv0',hbl,hbl'⟩
     all_goals as_aux_lemma=>
      skip
      repeat' first|refine W ?_|(apply S.arith;(iterate 4 exact rfl);omega)|(apply S.call;exact rfl;exact rfl;exact ca;exact rfl)|(apply S.call;exact rfl;exact rfl;exact cta;exact rfl)|(apply S.indexR;(iterate 3 exact rfl);exact hbx;omega;exact rfl)|(apply S.indexR;(iterate 3 exact rfl);exact hby;omega;exact rfl)|(apply S.call;exact rfl;exact rfl;exact cb;exact rfl)|(apply S.call;exact rfl;exact rfl;exact cay;exact rfl)|(apply p0i;(iterate 4 exact rfl))|(refine p1f 10 ([(9,.i (i:Int)),(10,.ptr 4 0),(11,.ptr 5 0),(12,.ptr 6 0),(58,.i (i:Int)),(57,.i ((((A5 l fr).map PcQ.row).length:Nat):Int)),(56,.sl ((A5 l fr).map PcQ.row)),(8,.sl ((A5 l fr).map PcQ.row)),(4,.ptr 0 0),(5,.ptr 1 0),(6,.ptr 2 0)]) ([.live ((frR fr).map .lf),.live ((frR te).map .lf),.live [.i 0,.i 0],.dead,.live (x.row.map .lf),.live ((frR (a)).map .lf),.live ((frR (te)).map .lf)]) ?_ ?_)|(refine p1f 12 ([(9,.i (i:Int)),(10,.ptr 4 0),(11,.ptr 5 0),(12,.ptr 6 0),(58,.i (i:Int)),(57,.i ((((A5 l fr).map PcQ.row).length:Nat):Int)),(56,.sl ((A5 l fr).map PcQ.row)),(8,.sl ((A5 l fr).map PcQ.row)),(4,.ptr 0 0),(5,.ptr 1 0),(6,.ptr 2 0)]) ([.live ((frR fr).map .lf),.live ((frR te).map .lf),.live [.i 0,.i 0],.dead,.live (x.row.map .lf),.live ((frR (a)).map .lf),.live ((frR (b)).map .lf)]) ?_ ?_)|refine Da ?_|refine Dv 16 ?_|refine Dv 22 ?_|(apply S.call;exact rfl;exact rfl;exact cp;exact rfl)|(apply S.call;exact rfl;exact rfl;exact oa;exact rfl)|(apply S.call;exact rfl;exact rfl;exact ob;exact rfl)|(apply S.call;exact rfl;exact rfl;exact cv;exact rfl)|(apply S.call;exact rfl;exact rfl;exact cs;exact rfl)|(apply S.call;exact rfl;exact rfl;exact cbl;exact rfl)|(apply S.call;exact rfl;exact rfl;exact cen;exact rfl)|(apply S.call;exact rfl;exact rfl;exact cf;exact rfl)|refine Dv 6 ?_|refine Dw 6 ?_|refine Dw 7 ?_|refine Dv 7 ?_|refine V ?_|refine W2 ?_ ?_<;>intro hc
      all_goals first
       |exact p1k (.cons rfl rfl (.cons rfl rfl (.cons rfl rfl CW))) (by rw[hAx (ka.1 (by assumption))];exact CG)
       |exact p1k (.cons rfl rfl (.cons rfl rfl (.cons rfl rfl CW))) (by rw[hAx' (fun e=>absurd (ka.2 e) (by assumption))];exact CG)
       |exact p1k (.cons rfl rfl (.cons rfl rfl (.cons rfl rfl CW))) (by rw[hB (kb.1 (by assumption))];exact CG)
       |exact p1k (.cons rfl rfl (.cons rfl rfl (.cons rfl rfl CW))) (by rw[hB' (fun e=>absurd (kb.2 e) (by assumption))];exact CG)
       |(rw[show By l fr te=.tup [A0 [.i u1,.i u2],.i 0] by unfold By;rw[H8 (k:=i+1) (by rw[hsn,hs,if_pos hv0]) _ (by omega)]];exact D3 rfl rfl rfl rfl rfl rfl rfl)
       |(rw[show By l fr te=.tup [A0 [.i w1,.i w2],.i 0] by unfold By;rw[H8 (k:=i+1) (by rw[hsn,hs,if_neg hv0,if_pos hbl]) _ (by omega)]];exact D3 rfl rfl rfl rfl rfl rfl rfl)
       |(change Next _ _ _ _ _ _;exact Next.go (i+1) ⟨by omega,by rw[hsn,hs,if_neg hv0,if_neg hbl]⟩ (by omega) (.cons rfl rfl CW) CG)
   ·have h2:¬(i:Int)+1<((((A5 l fr).map PcQ.row).length:Nat):Int):=by omega
    have hB':b=te:=by rw[hb,ptB,if_neg fun e=>hlast e.1]
    have hfb:Fits b:=by rw[hB'];exact ht
    have hO:B8 (A5 l fr) fr te i↔te<a:=by rw[B8,<-ha];exact⟨fun h=>h.elim id fun e=>absurd e.1 hlast,.inl⟩
    have hrg:¬B8 (A5 l fr) fr te i->a<=te:=fun h=>a1j.1 fun e=>h (hO.2 e)
    have hab:¬B8 (A5 l fr) fr te i->a<=b:=fun h=>by rw[hB'];exact hrg h
    have hbt:b<=te:=by rw[hB'];exact a2i
    have ob:=Ja b hfb
    have cbl:=K2 x.pt (Ex.ofQ a) (Ex.ofQ b) okx.pt (bd_ofQ hfa) (bd_ofQ hfb)
    have kbl:x.pt.belowS (Ex.ofQ a) (Ex.ofQ b)↔C6 x a b:=by rw[F0 (bd_ofQ hfa).2.2 (bd_ofQ hfb).2.2,Ex.val_ofQ,Ex.val_ofQ]
    have hst:¬B8 (A5 l fr) fr te i->D0 (A5 l fr) fr te i=if vR x a<0 then some (enQ a)else if C6 x a b then some (Ig x a b)else none:=fun h=>by rw[D0,if_neg h,px,<-ha,<-hb]
    have hout:B8 (A5 l fr) fr te i->D0 (A5 l fr) fr te i=none:=fun h=>by rw[D0,if_pos h]
    have hm:¬B8 (A5 l fr) fr te i->Mid a/\Mid b:=fun h=>⟨H6 hfa ⟨a1c hr1.1 hage,a1c (hrg h) hr2.2⟩,H6 hfb ⟨a1c hr1.1 (a1c hage (hab h)),a1c hbt hr2.2⟩⟩
    by_cases hO1:B8 (A5 l fr) fr te i
    ·as_aux_lemma=>
     repeat' first|refine W ?_|(apply S.arith;(iterate 4 exact rfl);omega)|(apply S.call;exact rfl;exact rfl;exact ca;exact rfl)|(apply S.call;exact rfl;exact rfl;exact cta;exact rfl)|(apply S.indexR;(iterate 3 exact rfl);exact hbx;omega;exact rfl)|(apply p0i;(iterate 4 exact rfl))|(refine p1f 10 ([(9,.i (i:Int)),(10,.ptr 4 0),(11,.ptr 5 0),(12,.ptr 6 0),(58,.i (i:Int)),(57,.i ((((A5 l fr).map PcQ.row).length:Nat):Int)),(56,.sl ((A5 l fr).map PcQ.row)),(8,.sl ((A5 l fr).map PcQ.row)),(4,.ptr 0 0),(5,.ptr 1 0),(6,.ptr 2 0)]) ([.live ((frR fr).map .lf),.live ((frR te).map .lf),.live [.i 0,.i 0],.dead,.live (x.row.map .lf),.live ((frR (a)).map .lf),.live ((frR (te)).map .lf)]) ?_ ?_)|(refine p1f 12 ([(9,.i (i:Int)),(10,.ptr 4 0),(11,.ptr 5 0),(12,.ptr 6 0),(58,.i (i:Int)),(57,.i ((((A5 l fr).map PcQ.row).length:Nat):Int)),(56,.sl ((A5 l fr).map PcQ.row)),(8,.sl ((A5 l fr).map PcQ.row)),(4,.ptr 0 0),(5,.ptr 1 0),(6,.ptr 2 0)]) ([.live ((frR fr).map .lf),.live ((frR te).map .lf),.live [.i 0,.i 0],.dead,.live (x.row.map .lf),.live ((frR (a)).map .lf),.live ((frR (b)).map .lf)]) ?_ ?_)|refine Da ?_|refine Dv 16 ?_|refine Dv 22 ?_|refine V ?_|refine W2 ?_ ?_<;>intro hc
     all_goals first
      |exact p1k (.cons rfl rfl (.cons rfl rfl (.cons rfl rfl CW))) (by rw[hAx (ka.1 (by assumption))];exact CG)
      |exact p1k (.cons rfl rfl (.cons rfl rfl (.cons rfl rfl CW))) (by rw[hAx' (fun e=>absurd (ka.2 e) (by assumption))];exact CG)
      |exact p1k (.cons rfl rfl (.cons rfl rfl (.cons rfl rfl CW))) (by rw[hB'];exact CG)
      |(change Next _ _ _ _ _ _;exact Next.go (i+1) ⟨by omega,by rw[hsn,hout hO1]⟩ (by omega) (.cons rfl rfl CW) CG)
      |exact absurd (kta.2 (hO.1 hO1)) (by assumption)
    ·as_aux_lemma=>
     have q1:¬0<Ay a te:=fun e=>hO1 (hO.2 (kta.1 e))
     obtain⟨ma,mb⟩:=hm hO1
     have cen:=Jk a ma
     have cf:=Pf x a b okx ma mb (hab hO1)
     obtain⟨u1,u2,hu⟩:=Vi a
     obtain⟨w1,w2,hw⟩:=Sb x a b
     have hs:=hst hO1
     rw[hu]at cen hs
     rw[hw]at cf hs
     have way:(vR x a<0/\sv<0)\/(¬vR x a<0/\¬sv<0/\C6 x a b/\x.pt.belowS (Ex.ofQ a) (Ex.ofQ b))\/(¬vR x a<0/\¬sv<0/\¬C6 x a b/\¬x.pt.belowS (Ex.ofQ a) (Ex.ofQ b)):=by
      by_cases hv0:vR x a<0
      ·exact .inl ⟨hv0,kv.2 hv0⟩
      ·have k:=fun e=>hv0 (kv.1 e)
       by_cases hbl:C6 x a b
       ·exact .inr (.inl ⟨hv0,k,hbl,kbl.2 hbl⟩)
       ·exact .inr (.inr ⟨hv0,k,hbl,fun e=>hbl (kbl.1 e)⟩)
     rcases way with⟨hv0,hv0'⟩|⟨hv0,hv0',hbl,hbl'⟩|⟨hv0,hv0',hbl,hbl'⟩
     all_goals as_aux_lemma=>
      skip
      repeat' first|refine W ?_|(apply S.arith;(iterate 4 exact rfl);omega)|(apply S.call;exact rfl;exact rfl;exact ca;exact rfl)|(apply S.call;exact rfl;exact rfl;exact cta;exact rfl)|(apply S.indexR;(iterate 3 exact rfl);exact hbx;omega;exact rfl)|(apply p0i;(iterate 4 exact rfl))|(refine p1f 10 ([(9,.i (i:Int)),(10,.ptr 4 0),(11,.ptr 5 0),(12,.ptr 6 0),(58,.i (i:Int)),(57,.i ((((A5 l fr).map PcQ.row).length:Nat):Int)),(56,.sl ((A5 l fr).map PcQ.row)),(8,.sl ((A5 l fr).map PcQ.row)),(4,.ptr 0 0),(5,.ptr 1 0),(6,.ptr 2 0)]) ([.live ((frR fr).map .lf),.live ((frR te).map .lf),.live [.i 0,.i 0],.dead,.live (x.row.map .lf),.live ((frR (a)).map .lf),.live ((frR (te)).map .lf)]) ?_ ?_)|(refine p1f 12 ([(9,.i (i:Int)),(10,.ptr 4 0),(11,.ptr 5 0),(12,.ptr 6 0),(58,.i (i:Int)),(57,.i ((((A5 l fr).map PcQ.row).length:Nat):Int)),(56,.sl ((A5 l fr).map PcQ.row)),(8,.sl ((A5 l fr).map PcQ.row)),(4,.ptr 0 0),(5,.ptr 1 0),(6,.ptr 2 0)]) ([.live ((frR fr).map .lf),.live ((frR te).map .lf),.live [.i 0,.i 0],.dead,.live (x.row.map .lf),.live ((frR (a)).map .lf),.live ((frR (b)).map .lf)]) ?_ ?_)|refine Da ?_|refine Dv 16 ?_|refine Dv 22 ?_|(apply S.call;exact rfl;exact rfl;exact cp;exact rfl)|(apply S.call;exact rfl;exact rfl;exact oa;exact rfl)|(apply S.call;exact rfl;exact rfl;exact ob;exact rfl)|(apply S.call;exact rfl;exact rfl;exact cv;exact rfl)|(apply S.call;exact rfl;exact rfl;exact cs;exact rfl)|(apply S.call;exact rfl;exact rfl;exact cbl;exact rfl)|(apply S.call;exact rfl;exact rfl;exact cen;exact rfl)|(apply S.call;exact rfl;exact rfl;exact cf;exact rfl)|refine Dv 6 ?_|refine Dw 6 ?_|refine Dw 7 ?_|refine Dv 7 ?_|refine V ?_|refine W2 ?_ ?_<;>intro hc
      all_goals first
       |exact p1k (.cons rfl rfl (.cons rfl rfl (.cons rfl rfl CW))) (by rw[hAx (ka.1 (by assumption))];exact CG)
       |exact p1k (.cons rfl rfl (.cons rfl rfl (.cons rfl rfl CW))) (by rw[hAx' (fun e=>absurd (ka.2 e) (by assumption))];exact CG)
       |exact p1k (.cons rfl rfl (.cons rfl rfl (.cons rfl rfl CW))) (by rw[hB'];exact CG)
       |(rw[show By l fr te=.tup [A0 [.i u1,.i u2],.i 0] by unfold By;rw[H8 (k:=i+1) (by rw[hsn,hs,if_pos hv0]) _ (by omega)]];exact D3 rfl rfl rfl rfl rfl rfl rfl)
       |(rw[show By l fr te=.tup [A0 [.i w1,.i w2],.i 0] by unfold By;rw[H8 (k:=i+1) (by rw[hsn,hs,if_neg hv0,if_pos hbl]) _ (by omega)]];exact D3 rfl rfl rfl rfl rfl rfl rfl)
       |(change Next _ _ _ _ _ _;exact Next.go (i+1) ⟨by omega,by rw[hsn,hs,if_neg hv0,if_neg hbl]⟩ (by omega) (.cons rfl rfl CW) CG)
  ·have hAx':a=fr:=by rw[ha,ptA,if_neg fun e=>hi0 (by have:=e.1;omega)]
   by_cases hlast:i+1<(A5 l fr).length
   ·have h2:(i:Int)+1<((((A5 l fr).map PcQ.row).length:Nat):Int):=by omega
    obtain⟨y,hy⟩:=A2 hlast
    have hby:((A5 l fr).map PcQ.row)[((i:Int)+1).toNat]?=some y.row:=by rw[show((i:Int)+1).toNat=i+1 by omega,a0d,hy];rfl
    have oky:=hA y (a0a hy)
    have py:A6 (A5 l fr) (i+1)=y:=Bs hy
    have cb:=Ch y.f te oky.f ht
    have kb:=Dr y.f te
    have cay:=Ch a y.f hfa oky.f
    have kay:=A4t a y.f
    have hfb:Fits b:=by
     rw[hb];unfold ptB;split
     ·rw[py];exact oky.f
     ·exact ht
    have hB:∀h:y.f<te,b=y.f:=fun h=>by rw[hb,ptB,if_pos ⟨hlast,by rw[py];exact h⟩,py]
    have hB':∀h:¬y.f<te,b=te:=fun h=>by rw[hb,ptB,if_neg fun e=>h (by rw[<-py];exact e.2)]
    have hO:B8 (A5 l fr) fr te i↔te<a\/y.f<=a:=by rw[B8,<-ha,py];exact⟨fun h=>h.imp_right And.right,fun h=>h.imp_right fun e=>⟨hlast,e⟩⟩
    have hrg:¬B8 (A5 l fr) fr te i->a<=te:=fun h=>a1j.1 fun e=>h (hO.2 (.inl e))
    have hab:¬B8 (A5 l fr) fr te i->a<=b:=fun h=>by
     by_cases e:y.f<te
     ·rw[hB e];exact a1e (a2w.1 fun e2=>h (hO.2 (.inr e2)))
     ·rw[hB' e];exact hrg h
    have hbt:b<=te:=by
     by_cases e:y.f<te
     ·rw[hB e];exact a1e e
     ·rw[hB' e];exact a2i
    have ob:=Ja b hfb
    have cbl:=K2 x.pt (Ex.ofQ a) (Ex.ofQ b) okx.pt (bd_ofQ hfa) (bd_ofQ hfb)
    have kbl:x.pt.belowS (Ex.ofQ a) (Ex.ofQ b)↔C6 x a b:=by rw[F0 (bd_ofQ hfa).2.2 (bd_ofQ hfb).2.2,Ex.val_ofQ,Ex.val_ofQ]
    have hst:¬B8 (A5 l fr) fr te i->D0 (A5 l fr) fr te i=if vR x a<0 then some (enQ a)else if C6 x a b then some (Ig x a b)else none:=fun h=>by rw[D0,if_neg h,px,<-ha,<-hb]
    have hout:B8 (A5 l fr) fr te i->D0 (A5 l fr) fr te i=none:=fun h=>by rw[D0,if_pos h]
    have hm:¬B8 (A5 l fr) fr te i->Mid a/\Mid b:=fun h=>⟨H6 hfa ⟨a1c hr1.1 hage,a1c (hrg h) hr2.2⟩,H6 hfb ⟨a1c hr1.1 (a1c hage (hab h)),a1c hbt hr2.2⟩⟩
    by_cases hO1:B8 (A5 l fr) fr te i
    ·as_aux_lemma=>
     repeat' first|refine W ?_|(apply S.arith;(iterate 4 exact rfl);omega)|(apply S.call;exact rfl;exact rfl;exact ca;exact rfl)|(apply S.call;exact rfl;exact rfl;exact cta;exact rfl)|(apply S.indexR;(iterate 3 exact rfl);exact hbx;omega;exact rfl)|(apply S.indexR;(iterate 3 exact rfl);exact hby;omega;exact rfl)|(apply S.call;exact rfl;exact rfl;exact cb;exact rfl)|(apply S.call;exact rfl;exact rfl;exact cay;exact rfl)|(apply p0i;(iterate 4 exact rfl))|(refine p1f 10 ([(9,.i (i:Int)),(10,.ptr 4 0),(11,.ptr 5 0),(12,.ptr 6 0),(58,.i (i:Int)),(57,.i ((((A5 l fr).map PcQ.row).length:Nat):Int)),(56,.sl ((A5 l fr).map PcQ.row)),(8,.sl ((A5 l fr).map PcQ.row)),(4,.ptr 0 0),(5,.ptr 1 0),(6,.ptr 2 0)]) ([.live ((frR fr).map .lf),.live ((frR te).map .lf),.live [.i 0,.i 0],.dead,.live (x.row.map .lf),.live ((frR (a)).map .lf),.live ((frR (te)).map .lf)]) ?_ ?_)|(refine p1f 12 ([(9,.i (i:Int)),(10,.ptr 4 0),(11,.ptr 5 0),(12,.ptr 6 0),(58,.i (i:Int)),(57,.i ((((A5 l fr).map PcQ.row).length:Nat):Int)),(56,.sl ((A5 l fr).map PcQ.row)),(8,.sl ((A5 l fr).map PcQ.row)),(4,.ptr 0 0),(5,.ptr 1 0),(6,.ptr 2 0)]) ([.live ((frR fr).map .lf),.live ((frR te).map .lf),.live [.i 0,.i 0],.dead,.live (x.row.map .lf),.live ((frR (a)).map .lf),.live ((frR (b)).map .lf)]) ?_ ?_)|refine Da ?_|refine Dv 16 ?_|refine Dv 22 ?_|refine V ?_|refine W2 ?_ ?_<;>intro hc
     all_goals first
      |exact p1k (.cons rfl rfl (.cons rfl rfl (.cons rfl rfl CW))) (by rw[hAx'];exact CG)
      |exact p1k (.cons rfl rfl (.cons rfl rfl (.cons rfl rfl CW))) (by rw[hB (kb.1 (by assumption))];exact CG)
      |exact p1k (.cons rfl rfl (.cons rfl rfl (.cons rfl rfl CW))) (by rw[hB' (fun e=>absurd (kb.2 e) (by assumption))];exact CG)
      |(change Next _ _ _ _ _ _;exact Next.go (i+1) ⟨by omega,by rw[hsn,hout hO1]⟩ (by omega) (.cons rfl rfl CW) CG)
      |(exfalso;rcases hO.1 hO1 with e|e;exact absurd (kta.2 e) (by assumption);exact absurd (kay.2 e) (by assumption))
    ·as_aux_lemma=>
     have q1:¬0<Ay a te:=fun e=>hO1 (hO.2 (.inl (kta.1 e)))
     have q2:¬0<=Ay a y.f:=fun e=>hO1 (hO.2 (.inr (kay.1 e)))
     obtain⟨ma,mb⟩:=hm hO1
     have cen:=Jk a ma
     have cf:=Pf x a b okx ma mb (hab hO1)
     obtain⟨u1,u2,hu⟩:=Vi a
     obtain⟨w1,w2,hw⟩:=Sb x a b
     have hs:=hst hO1
     rw[hu]at cen hs
     rw[hw]at cf hs
     have way:(vR x a<0/\sv<0)\/(¬vR x a<0/\¬sv<0/\C6 x a b/\x.pt.belowS (Ex.ofQ a) (Ex.ofQ b))\/(¬vR x a<0/\¬sv<0/\¬C6 x a b/\¬x.pt.belowS (Ex.ofQ a) (Ex.ofQ b)):=by
      by_cases hv0:vR x a<0
      ·exact .inl ⟨hv0,kv.2 hv0⟩
      ·have k:=fun e=>hv0 (kv.1 e)
       by_cases hbl:C6 x a b
       ·exact .inr (.inl ⟨hv0,k,hbl,kbl.2 hbl⟩)
       ·exact .inr (.inr ⟨hv0,k,hbl,fun e=>hbl (kbl.1 e)⟩)
     rcases way with⟨hv0,hv0'⟩|⟨hv0,hv0',hbl,hbl'⟩|⟨hv0,hv0',hbl,hbl'⟩
     all_goals as_aux_lemma=>
      skip
      repeat' first|refine W ?_|(apply S.arith;(iterate 4 exact rfl);omega)|(apply S.call;exact rfl;exact rfl;exact ca;exact rfl)|(apply S.call;exact rfl;exact rfl;exact cta;exact rfl)|(apply S.indexR;(iterate 3 exact rfl);exact hbx;omega;exact rfl)|(apply S.indexR;(iterate 3 exact rfl);exact hby;omega;exact rfl)|(apply S.call;exact rfl;exact rfl;exact cb;exact rfl)|(apply S.call;exact rfl;exact rfl;exact cay;exact rfl)|(apply p0i;(iterate 4 exact rfl))|(refine p1f 10 ([(9,.i (i:Int)),(10,.ptr 4 0),(11,.ptr 5 0),(12,.ptr 6 0),(58,.i (i:Int)),(57,.i ((((A5 l fr).map PcQ.row).length:Nat):Int)),(56,.sl ((A5 l fr).map PcQ.row)),(8,.sl ((A5 l fr).map PcQ.row)),(4,.ptr 0 0),(5,.ptr 1 0),(6,.ptr 2 0)]) ([.live ((frR fr).map .lf),.live ((frR te).map .lf),.live [.i 0,.i 0],.dead,.live (x.row.map .lf),.live ((frR (a)).map .lf),.live ((frR (te)).map .lf)]) ?_ ?_)|(refine p1f 12 ([(9,.i (i:Int)),(10,.ptr 4 0),(11,.ptr 5 0),(12,.ptr 6 0),(58,.i (i:Int)),(57,.i ((((A5 l fr).map PcQ.row).length:Nat):Int)),(56,.sl ((A5 l fr).map PcQ.row)),(8,.sl ((A5 l fr).map PcQ.row)),(4,.ptr 0 0),(5,.ptr 1 0),(6,.ptr 2 0)]) ([.live ((frR fr).map .lf),.live ((frR te).map .lf),.live [.i 0,.i 0],.dead,.live (x.row.map .lf),.live ((frR (a)).map .lf),.live ((frR (b)).map .lf)]) ?_ ?_)|refine Da ?_|refine Dv 16 ?_|refine Dv 22 ?_|(apply S.call;exact rfl;exact rfl;exact cp;exact rfl)|(apply S.call;exact rfl;exact rfl;exact oa;exact rfl)|(apply S.call;exact rfl;exact rfl;exact ob;exact rfl)|(apply S.call;exact rfl;exact rfl;exact cv;exact rfl)|(apply S.call;exact rfl;exact rfl;exact cs;exact rfl)|(apply S.call;exact rfl;exact rfl;exact cbl;exact rfl)|(apply S.call;exact rfl;exact rfl;exact cen;exact rfl)|(apply S.call;exact rfl;exact rfl;exact cf;exact rfl)|refine Dv 6 ?_|refine Dw 6 ?_|refine Dw 7 ?_|refine Dv 7 ?_|refine V ?_|refine W2 ?_ ?_<;>intro hc
      all_goals first
       |exact p1k (.cons rfl rfl (.cons rfl rfl (.cons rfl rfl CW))) (by rw[hAx'];exact CG)
       |exact p1k (.cons rfl rfl (.cons rfl rfl (.cons rfl rfl CW))) (by rw[hB (kb.1 (by assumption))];exact CG)
       |exact p1k (.cons rfl rfl (.cons rfl rfl (.cons rfl rfl CW))) (by rw[hB' (fun e=>absurd (kb.2 e) (by assumption))];exact CG)
       |(rw[show By l fr te=.tup [A0 [.i u1,.i u2],.i 0] by unfold By;rw[H8 (k:=i+1) (by rw[hsn,hs,if_pos hv0]) _ (by omega)]];exact D3 rfl rfl rfl rfl rfl rfl rfl)
       |(rw[show By l fr te=.tup [A0 [.i w1,.i w2],.i 0] by unfold By;rw[H8 (k:=i+1) (by rw[hsn,hs,if_neg hv0,if_pos hbl]) _ (by omega)]];exact D3 rfl rfl rfl rfl rfl rfl rfl)
       |(change Next _ _ _ _ _ _;exact Next.go (i+1) ⟨by omega,by rw[hsn,hs,if_neg hv0,if_neg hbl]⟩ (by omega) (.cons rfl rfl CW) CG)
   ·have h2:¬(i:Int)+1<((((A5 l fr).map PcQ.row).length:Nat):Int):=by omega
    have hB':b=te:=by rw[hb,ptB,if_neg fun e=>hlast e.1]
    have hfb:Fits b:=by rw[hB'];exact ht
    have hO:B8 (A5 l fr) fr te i↔te<a:=by rw[B8,<-ha];exact⟨fun h=>h.elim id fun e=>absurd e.1 hlast,.inl⟩
    have hrg:¬B8 (A5 l fr) fr te i->a<=te:=fun h=>a1j.1 fun e=>h (hO.2 e)
    have hab:¬B8 (A5 l fr) fr te i->a<=b:=fun h=>by rw[hB'];exact hrg h
    have hbt:b<=te:=by rw[hB'];exact a2i
    have ob:=Ja b hfb
    have cbl:=K2 x.pt (Ex.ofQ a) (Ex.ofQ b) okx.pt (bd_ofQ hfa) (bd_ofQ hfb)
    have kbl:x.pt.belowS (Ex.ofQ a) (Ex.ofQ b)↔C6 x a b:=by rw[F0 (bd_ofQ hfa).2.2 (bd_ofQ hfb).2.2,Ex.val_ofQ,Ex.val_ofQ]
    have hst:¬B8 (A5 l fr) fr te i->D0 (A5 l fr) fr te i=if vR x a<0 then some (enQ a)else if C6 x a b then some (Ig x a b)else none:=fun h=>by rw[D0,if_neg h,px,<-ha,<-hb]
    have hout:B8 (A5 l fr) fr te i->D0 (A5 l fr) fr te i=none:=fun h=>by rw[D0,if_pos h]
    have hm:¬B8 (A5 l fr) fr te i->Mid a/\Mid b:=fun h=>⟨H6 hfa ⟨a1c hr1.1 hage,a1c (hrg h) hr2.2⟩,H6 hfb ⟨a1c hr1.1 (a1c hage (hab h)),a1c hbt hr2.2⟩⟩
    by_cases hO1:B8 (A5 l fr) fr te i
    ·as_aux_lemma=>
     repeat' first|refine W ?_|(apply S.arith;(iterate 4 exact rfl);omega)|(apply S.call;exact rfl;exact rfl;exact ca;exact rfl)|(apply S.call;exact rfl;exact rfl;exact cta;exact rfl)|(apply S.indexR;(iterate 3 exact rfl);exact hbx;omega;exact rfl)|(apply p0i;(iterate 4 exact rfl))|(refine p1f 10 ([(9,.i (i:Int)),(10,.ptr 4 0),(11,.ptr 5 0),(12,.ptr 6 0),(58,.i (i:Int)),(57,.i ((((A5 l fr).map PcQ.row).length:Nat):Int)),(56,.sl ((A5 l fr).map PcQ.row)),(8,.sl ((A5 l fr).map PcQ.row)),(4,.ptr 0 0),(5,.ptr 1 0),(6,.ptr 2 0)]) ([.live ((frR fr).map .lf),.live ((frR te).map .lf),.live [.i 0,.i 0],.dead,.live (x.row.map .lf),.live ((frR (a)).map .lf),.live ((frR (te)).map .lf)]) ?_ ?_)|(refine p1f 12 ([(9,.i (i:Int)),(10,.ptr 4 0),(11,.ptr 5 0),(12,.ptr 6 0),(58,.i (i:Int)),(57,.i ((((A5 l fr).map PcQ.row).length:Nat):Int)),(56,.sl ((A5 l fr).map PcQ.row)),(8,.sl ((A5 l fr).map PcQ.row)),(4,.ptr 0 0),(5,.ptr 1 0),(6,.ptr 2 0)]) ([.live ((frR fr).map .lf),.live ((frR te).map .lf),.live [.i 0,.i 0],.dead,.live (x.row.map .lf),.live ((frR (a)).map .lf),.live ((frR (b)).map .lf)]) ?_ ?_)|refine Da ?_|refine Dv 16 ?_|refine Dv 22 ?_|refine V ?_|refine W2 ?_ ?_<;>intro hc
     all_goals first
      |exact p1k (.cons rfl rfl (.cons rfl rfl (.cons rfl rfl CW))) (by rw[hAx'];exact CG)
      |exact p1k (.cons rfl rfl (.cons rfl rfl (.cons rfl rfl CW))) (by rw[hB'];exact CG)
      |(change Next _ _ _ _ _ _;exact Next.go (i+1) ⟨by omega,by rw[hsn,hout hO1]⟩ (by omega) (.cons rfl rfl CW) CG)
      |exact absurd (kta.2 (hO.1 hO1)) (by assumption)
    ·as_aux_lemma=>
     have q1:¬0<Ay a te:=fun e=>hO1 (hO.2 (kta.1 e))
     obtain⟨ma,mb⟩:=hm hO1
     have cen:=Jk a ma
     have cf:=Pf x a b okx ma mb (hab hO1)
     obtain⟨u1,u2,hu⟩:=Vi a
     obtain⟨w1,w2,hw⟩:=Sb x a b
     have hs:=hst hO1
     rw[hu]at cen hs
     rw[hw]at cf hs
     have way:(vR x a<0/\sv<0)\/(¬vR x a<0/\¬sv<0/\C6 x a b/\x.pt.belowS (Ex.ofQ a) (Ex.ofQ b))\/(¬vR x a<0/\¬sv<0/\¬C6 x a b/\¬x.pt.belowS (Ex.ofQ a) (Ex.ofQ b)):=by
      by_cases hv0:vR x a<0
      ·exact .inl ⟨hv0,kv.2 hv0⟩
      ·have k:=fun e=>hv0 (kv.1 e)
       by_cases hbl:C6 x a b
       ·exact .inr (.inl ⟨hv0,k,hbl,kbl.2 hbl⟩)
       ·exact .inr (.inr ⟨hv0,k,hbl,fun e=>hbl (kbl.1 e)⟩)
     rcases way with⟨hv0,hv0'⟩|⟨hv0,hv0',hbl,hbl'⟩|⟨hv0,hv0',hbl,hbl'⟩
     all_goals as_aux_lemma=>
      skip
      repeat' first|refine W ?_|(apply S.arith;(iterate 4 exact rfl);omega)|(apply S.call;exact rfl;exact rfl;exact ca;exact rfl)|(apply S.call;exact rfl;exact rfl;exact cta;exact rfl)|(apply S.indexR;(iterate 3 exact rfl);exact hbx;omega;exact rfl)|(apply p0i;(iterate 4 exact rfl))|(refine p1f 10 ([(9,.i (i:Int)),(10,.ptr 4 0),(11,.ptr 5 0),(12,.ptr 6 0),(58,.i (i:Int)),(57,.i ((((A5 l fr).map PcQ.row).length:Nat):Int)),(56,.sl ((A5 l fr).map PcQ.row)),(8,.sl ((A5 l fr).map PcQ.row)),(4,.ptr 0 0),(5,.ptr 1 0),(6,.ptr 2 0)]) ([.live ((frR fr).map .lf),.live ((frR te).map .lf),.live [.i 0,.i 0],.dead,.live (x.row.map .lf),.live ((frR (a)).map .lf),.live ((frR (te)).map .lf)]) ?_ ?_)|(refine p1f 12 ([(9,.i (i:Int)),(10,.ptr 4 0),(11,.ptr 5 0),(12,.ptr 6 0),(58,.i (i:Int)),(57,.i ((((A5 l fr).map PcQ.row).length:Nat):Int)),(56,.sl ((A5 l fr).map PcQ.row)),(8,.sl ((A5 l fr).map PcQ.row)),(4,.ptr 0 0),(5,.ptr 1 0),(6,.ptr 2 0)]) ([.live ((frR fr).map .lf),.live ((frR te).map .lf),.live [.i 0,.i 0],.dead,.live (x.row.map .lf),.live ((frR (a)).map .lf),.live ((frR (b)).map .lf)]) ?_ ?_)|refine Da ?_|refine Dv 16 ?_|refine Dv 22 ?_|(apply S.call;exact rfl;exact rfl;exact cp;exact rfl)|(apply S.call;exact rfl;exact rfl;exact oa;exact rfl)|(apply S.call;exact rfl;exact rfl;exact ob;exact rfl)|(apply S.call;exact rfl;exact rfl;exact cv;exact rfl)|(apply S.call;exact rfl;exact rfl;exact cs;exact rfl)|(apply S.call;exact rfl;exact rfl;exact cbl;exact rfl)|(apply S.call;exact rfl;exact rfl;exact cen;exact rfl)|(apply S.call;exact rfl;exact rfl;exact cf;exact rfl)|refine Dv 6 ?_|refine Dw 6 ?_|refine Dw 7 ?_|refine Dv 7 ?_|refine V ?_|refine W2 ?_ ?_<;>intro hc
      all_goals first
       |exact p1k (.cons rfl rfl (.cons rfl rfl (.cons rfl rfl CW))) (by rw[hAx'];exact CG)
       |exact p1k (.cons rfl rfl (.cons rfl rfl (.cons rfl rfl CW))) (by rw[hB'];exact CG)
       |(rw[show By l fr te=.tup [A0 [.i u1,.i u2],.i 0] by unfold By;rw[H8 (k:=i+1) (by rw[hsn,hs,if_pos hv0]) _ (by omega)]];exact D3 rfl rfl rfl rfl rfl rfl rfl)
       |(rw[show By l fr te=.tup [A0 [.i w1,.i w2],.i 0] by unfold By;rw[H8 (k:=i+1) (by rw[hsn,hs,if_neg hv0,if_pos hbl]) _ (by omega)]];exact D3 rfl rfl rfl rfl rfl rfl rfl)
       |(change Next _ _ _ _ _ _;exact Next.go (i+1) ⟨by omega,by rw[hsn,hs,if_neg hv0,if_neg hbl]⟩ (by omega) (.cons rfl rfl CW) CG)
 ·have h1:¬(i:Int)<((((A5 l fr).map PcQ.row).length:Nat):Int):=by omega
  obtain rfl:i=(A5 l fr).length:=by omega
  repeat' first|refine WX ?_|refine W2 ?_ ?_<;>intro hc
  rw[show By l fr te=spE 12 by unfold By;rw[hsc]]
  exact D3 rfl rfl rfl rfl rfl rfl rfl
end Go.Proofs.YtcaicpnepfjcmaaGreat
