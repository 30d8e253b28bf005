/- Lemmas of the proof. -/
import Derived.Test.YtcaicpnepfjcmaaGreatMp
set_option linter.all false
set_option maxHeartbeats 64000000
namespace Go.Proofs.YtcaicpnepfjcmaaGreat
open Go Go.RowKit
def a1e:= @Rat.le_of_lt
def a1i:= @List.length_pos_iff
def a1j:= @Rat.not_lt
def a2w:= @Rat.not_le
def a5q:= @Int.lt_or_le
def b1o:= @Tryz.ntmps149
def b2e:= @Tryz.func149
def b2p:= @Bool.decide_eq_true
def b3j:= @Tryz.func93
def b3k:= @Tryz.func95
theorem Fits.zero:Fits 0:=by decide
theorem Jl(p q:Rat)(hp:Fits p)(hq:Fits q):Fz 177 [A0 (frR p),A0 (frR q)] (Bg (p+q)):=A2z p q hp hq
theorem Hs(p q:Rat)(hp:Fits p)(hq:Fits q):Fz 96 [A0 (frR p),A0 (frR q)] (Bg (p-q)):=Ac1 p q hp hq
theorem A80(p q:Rat)(hp:Fits p)(hq:Fits q):Fz 110 [A0 (frR p),A0 (frR q)] (Bg (p*q)):=A30 p q hp hq
theorem I3(n d:Int):Fz 71 [A0 [.i n,.i d]] (.b (Dq n d)):=A31 n d

/-! ### Operations that keep the first error -/
def kQ(r:Rat):Rat:=if Fits r then r else 0
def kE(r:Rat)(e:Int):Int:=if Fits r then e else if e=0 then 5 else e
theorem Dj(r:Rat):Fits (kQ r):=by
 unfold kQ
 split
 ·assumption
 ·exact Fits.zero
theorem Pk:Fz 100 [] (A0 (frR 0)):=by
 refine Fo Tryz.func100 ?_
 repeat' first|refine WX ?_|refine W2 ?_ ?_<;>intro hc
 exact D4 rfl rfl rfl rfl rfl rfl
theorem Rp(n d e:Int):FnW Tryz.prog 149 [.i e] [A0 [.i n,.i d],.i 0] [.i e] (A0 [.i n,.i d]):=by
 refine FnW.of b2e b1o rfl rfl rfl ?_
 intro k o
 simp only[Ak]
 repeat' first|refine W ?_|refine Zbl ?_|refine Zbm ?_|refine Zb9 ?_|refine Zba ?_|refine Zd3 ?_|refine V ?_|refine W2 ?_ ?_<;>intro hc
 exact Hh [A0 ([.i n,.i d])] (.inr rfl) (.cons (Res.row ([.i n,.i d]) rfl rfl rfl rfl rfl) .nil) rfl rfl rfl
theorem Rq(e:Int):FnW Tryz.prog 149 [.i e] [A0 [.i 0,.i 0],.i 5] [.i (if e=0 then 5 else e)] (A0 (frR 0)):=by
 by_cases he:e=0
 ·rw[if_pos he]
  refine FnW.of b2e b1o rfl rfl rfl ?_
  intro k o
  simp only[Ak]
  repeat' first|refine W ?_|refine Zbl ?_|refine Zbm ?_|refine Zb9 ?_|refine Zba ?_|refine Zd3 ?_|refine Zc Pk ?_|refine V ?_|refine W2 ?_ ?_<;>intro hc
  exact Hh [A0 (frR 0)] (.inr rfl) (.cons (Res.row (frR 0) rfl rfl rfl rfl rfl) .nil) rfl rfl rfl
 ·rw[if_neg he]
  refine FnW.of b2e b1o rfl rfl rfl ?_
  intro k o
  simp only[Ak]
  repeat' first|refine W ?_|refine Zbl ?_|refine Zbm ?_|refine Zb9 ?_|refine Zba ?_|refine Zd3 ?_|refine Zc Pk ?_|refine V ?_|refine W2 ?_ ?_<;>intro hc
  exact Hh [A0 (frR 0)] (.inr rfl) (.cons (Res.row (frR 0) rfl rfl rfl rfl rfl) .nil) rfl rfl rfl
theorem Y2(p q:Rat)(e:Int)(hp:Fits p)(hq:Fits q):FnW Tryz.prog 215 [.i e] [A0 (frR p),A0 (frR q)] [.i (kE (p+q) e)] (A0 (frR (kQ (p+q)))):=by
 have c:=Jl p q hp hq
 unfold Bg at c
 unfold kE kQ
 by_cases hf:Fits (p+q)
 ·rw[if_pos hf]at c⊢
  rw[if_pos hf]
  have k1:=Rp (p+q).num (p+q).den e
  refine FnW.of Tryz.func215 Tryz.ntmps215 rfl rfl rfl ?_
  intro k o
  simp only[Ak]
  repeat' first|refine WY ?_|refine Zbl ?_|refine Zbm ?_|refine Zb9 ?_|refine Zba ?_|refine Zd3 ?_|refine Zb3 k1 ?_|refine Zb1 k1 ?_|refine Dw 6 ?_|refine Dv 6 ?_|refine V ?_|refine W2 ?_ ?_<;>intro hc
  exact Hh [A0 (frR (p+q))] (.inr rfl) (.cons (Res.row (frR (p+q)) rfl rfl rfl rfl rfl) .nil) rfl rfl rfl
 ·rw[if_neg hf]at c⊢
  rw[if_neg hf]
  have k1:=Rq e
  refine FnW.of Tryz.func215 Tryz.ntmps215 rfl rfl rfl ?_
  intro k o
  simp only[Ak]
  repeat' first|refine WY ?_|refine Zbl ?_|refine Zbm ?_|refine Zb9 ?_|refine Zba ?_|refine Zd3 ?_|refine Zb3 k1 ?_|refine Zb1 k1 ?_|refine Dw 6 ?_|refine Dv 6 ?_|refine V ?_|refine W2 ?_ ?_<;>intro hc
  exact Hh [A0 (frR 0)] (.inr rfl) (.cons (Res.row (frR 0) rfl rfl rfl rfl rfl) .nil) rfl rfl rfl
theorem T2(p q:Rat)(e:Int)(hp:Fits p)(hq:Fits q):FnW Tryz.prog 148 [.i e] [A0 (frR p),A0 (frR q)] [.i (kE (p-q) e)] (A0 (frR (kQ (p-q)))):=by
 have c:=Hs p q hp hq
 unfold Bg at c
 unfold kE kQ
 by_cases hf:Fits (p-q)
 ·rw[if_pos hf]at c⊢
  rw[if_pos hf]
  have k1:=Rp (p-q).num (p-q).den e
  refine FnW.of Tryz.func148 Tryz.ntmps148 rfl rfl rfl ?_
  intro k o
  simp only[Ak]
  repeat' first|refine WY ?_|refine Zbl ?_|refine Zbm ?_|refine Zb9 ?_|refine Zba ?_|refine Zd3 ?_|refine Zb3 k1 ?_|refine Zb1 k1 ?_|refine Dw 6 ?_|refine Dv 6 ?_|refine V ?_|refine W2 ?_ ?_<;>intro hc
  exact Hh [A0 (frR (p-q))] (.inr rfl) (.cons (Res.row (frR (p-q)) rfl rfl rfl rfl rfl) .nil) rfl rfl rfl
 ·rw[if_neg hf]at c⊢
  rw[if_neg hf]
  have k1:=Rq e
  refine FnW.of Tryz.func148 Tryz.ntmps148 rfl rfl rfl ?_
  intro k o
  simp only[Ak]
  repeat' first|refine WY ?_|refine Zbl ?_|refine Zbm ?_|refine Zb9 ?_|refine Zba ?_|refine Zd3 ?_|refine Zb3 k1 ?_|refine Zb1 k1 ?_|refine Dw 6 ?_|refine Dv 6 ?_|refine V ?_|refine W2 ?_ ?_<;>intro hc
  exact Hh [A0 (frR 0)] (.inr rfl) (.cons (Res.row (frR 0) rfl rfl rfl rfl rfl) .nil) rfl rfl rfl
theorem T1(p q:Rat)(e:Int)(hp:Fits p)(hq:Fits q):FnW Tryz.prog 151 [.i e] [A0 (frR p),A0 (frR q)] [.i (kE (p*q) e)] (A0 (frR (kQ (p*q)))):=by
 have c:=A80 p q hp hq
 unfold Bg at c
 unfold kE kQ
 by_cases hf:Fits (p*q)
 ·rw[if_pos hf]at c⊢
  rw[if_pos hf]
  have k1:=Rp (p*q).num (p*q).den e
  refine FnW.of Tryz.func151 Tryz.ntmps151 rfl rfl rfl ?_
  intro k o
  simp only[Ak]
  repeat' first|refine WY ?_|refine Zbl ?_|refine Zbm ?_|refine Zb9 ?_|refine Zba ?_|refine Zd3 ?_|refine Zb3 k1 ?_|refine Zb1 k1 ?_|refine Dw 6 ?_|refine Dv 6 ?_|refine V ?_|refine W2 ?_ ?_<;>intro hc
  exact Hh [A0 (frR (p*q))] (.inr rfl) (.cons (Res.row (frR (p*q)) rfl rfl rfl rfl rfl) .nil) rfl rfl rfl
 ·rw[if_neg hf]at c⊢
  rw[if_neg hf]
  have k1:=Rq e
  refine FnW.of Tryz.func151 Tryz.ntmps151 rfl rfl rfl ?_
  intro k o
  simp only[Ak]
  repeat' first|refine WY ?_|refine Zbl ?_|refine Zbm ?_|refine Zb9 ?_|refine Zba ?_|refine Zd3 ?_|refine Zb3 k1 ?_|refine Zb1 k1 ?_|refine Dw 6 ?_|refine Dv 6 ?_|refine V ?_|refine W2 ?_ ?_<;>intro hc
  exact Hh [A0 (frR 0)] (.inr rfl) (.cons (Res.row (frR 0) rfl rfl rfl rfl rfl) .nil) rfl rfl rfl
theorem A8e(n d e:Int):Fz 152 [.rop [.i e],A0 [.i n,.i d]] (if e=0 then .tup [A0 [.i n,.i d],.i 0]else .tup [A0 [.i 0,.i 0],.i e]):=by
 by_cases he:e=0
 ·rw[if_pos he]
  refine Fo Tryz.func152 ?_
  repeat' first|refine WX ?_|refine W2 ?_ ?_<;>intro hc
  exact D3 rfl rfl rfl rfl rfl rfl rfl
 ·rw[if_neg he]
  refine Fo Tryz.func152 ?_
  repeat' first|refine W ?_|(apply p0v A8)|refine Zbc ?_|(apply Ords.one (i:=0);decide+kernel;exact rfl)|(apply Ords.one (i:=1);decide+kernel;exact rfl)|(apply Ords.one (i:=2);decide+kernel;exact rfl)|(apply Ords.one (i:=3);decide+kernel;exact rfl)|(apply Ords.one (i:=4);decide+kernel;exact rfl)|(apply Ords.one (i:=5);decide+kernel;exact rfl)|(apply Ords.one (i:=6);decide+kernel;exact rfl)|(apply Ords.one (i:=7);decide+kernel;exact rfl)|(apply Ords.one (i:=8);decide+kernel;exact rfl)|(apply Ords.one (i:=9);decide+kernel;exact rfl)|(apply p0a (i:=0) (j:=1);decide+kernel;exact rfl;exact rfl)|(apply p0a (i:=0) (j:=2);decide+kernel;exact rfl;exact rfl)|(apply p0a (i:=0) (j:=3);decide+kernel;exact rfl;exact rfl)|(apply p0a (i:=0) (j:=4);decide+kernel;exact rfl;exact rfl)|(apply p0a (i:=1) (j:=5);decide+kernel;exact rfl;exact rfl)|(apply p0a (i:=2) (j:=5);decide+kernel;exact rfl;exact rfl)|(apply p0a (i:=3) (j:=5);decide+kernel;exact rfl;exact rfl)|(apply p0a (i:=4) (j:=5);decide+kernel;exact rfl;exact rfl)|(apply p0a (i:=5) (j:=6);decide+kernel;exact rfl;exact rfl)|(apply p0a (i:=4) (j:=6);decide+kernel;exact rfl;exact rfl)|(apply p0a (i:=6) (j:=7);decide+kernel;exact rfl;exact rfl)|(apply p0a (i:=5) (j:=7);decide+kernel;exact rfl;exact rfl)|refine V ?_|refine W2 ?_ ?_<;>intro hc
  all_goals exact D3 rfl rfl rfl rfl rfl rfl rfl
def K5(q:Rat)(e:Int):AV:=if e=0 then frE q 0 else .tup [A0 [.i 0,.i 0],.i e]
theorem A81(q:Rat)(e:Int):(K5 q e).plain=true:=by unfold K5;split<;>rfl
theorem A4h(q:Rat)(e:Int):FnW Tryz.prog 152 [.i e] [A0 (frR q)] [.i e] (K5 q e):=p4m (A8e q.num q.den e) (A81 q e)
structure PcQ where
 f:Rat
 a:Rat
 b:Rat
 c:Rat
 deriving DecidableEq,Inhabited
def PcQ.row(p:PcQ):List Lf:=[.i p.f.num,.i p.f.den,.i p.a.num,.i p.a.den,.i p.b.num,.i p.b.den,.i p.c.num,.i p.c.den]
structure PcQ.ok(p:PcQ):Prop where
 f:Fits p.f
 a:Fits p.a
 b:Fits p.b
 c:Fits p.c
def Gu(p:PcQ)(u:Rat):Rat:=p.c*u
def V3(p:PcQ)(u:Rat):Rat:=p.b+kQ (Gu p u)
def Y6(p:PcQ)(u:Rat):Rat:=kQ (V3 p u)*u
def A8n(p:PcQ)(u:Rat):Rat:=p.a+kQ (Y6 p u)
def Ms(p:PcQ)(u:Rat):Rat:=kQ (A8n p u)
def Ir(p:PcQ)(u:Rat)(e:Int):Int:=kE (A8n p u) (kE (Y6 p u) (kE (V3 p u) (kE (Gu p u) e)))
def Rl(p:PcQ)(u:Rat):Rat:=2*kQ (Gu p u)
def A8b(p:PcQ)(u:Rat):Rat:=p.b+kQ (Rl p u)
def Q3(p:PcQ)(u:Rat):Rat:=kQ (A8b p u)
def L9(p:PcQ)(u:Rat)(e:Int):Int:=kE (A8b p u) (kE (Rl p u) (kE (Gu p u) e))
theorem Zx(p:PcQ)(u:Rat)(e:Int)(hp:p.ok)(hu:Fits u):FnW Tryz.prog 147 [.i e] [A0 p.row,A0 (frR u)] [.i (Ir p u e)] (A0 (frR (Ms p u))):=by
 have c1:=T1 p.c u e hp.c hu
 have c2:=Y2 p.b (kQ (Gu p u)) (kE (Gu p u) e) hp.b (Dj _)
 have c3:=T1 (kQ (V3 p u)) u (kE (V3 p u) (kE (Gu p u) e)) (Dj _) hu
 have c4:=Y2 p.a (kQ (Y6 p u)) (kE (Y6 p u) (kE (V3 p u) (kE (Gu p u) e))) hp.a (Dj _)
 refine FnW.of Tryz.func147 Tryz.ntmps147 rfl rfl rfl ?_
 intro k o
 simp only[Ak]
 repeat' first|refine W ?_|refine Zbl ?_|refine Zbm ?_|refine Zb9 ?_|refine Zba ?_|refine Zd3 ?_|refine Zb3 c1 ?_|refine Zb1 c1 ?_|refine Zb3 c2 ?_|refine Zb1 c2 ?_|refine Zb3 c3 ?_|refine Zb1 c3 ?_|refine Zb3 c4 ?_|refine Zb1 c4 ?_|refine Dw 16 ?_|refine Dv 16 ?_|refine V ?_|refine W2 ?_ ?_<;>intro hc
 exact Hh [A0 (frR (Ms p u))] (.inr rfl) (.cons (Res.row (frR (Ms p u)) rfl rfl rfl rfl rfl) .nil) rfl rfl rfl
theorem Acc(p:PcQ)(u:Rat)(e:Int)(hp:p.ok)(hu:Fits u):FnW Tryz.prog 300 [.i e] [A0 p.row,A0 (frR u)] [.i (L9 p u e)] (A0 (frR (Q3 p u))):=by
 have c1:=T1 p.c u e hp.c hu
 have c2:FnW Tryz.prog 151 [.i (kE (Gu p u) e)] [A0 [.i 2,.i 1],A0 (frR (kQ (Gu p u)))] [.i (kE (Rl p u) (kE (Gu p u) e))] (A0 (frR (kQ (Rl p u)))):=T1 2 (kQ (Gu p u)) (kE (Gu p u) e) (by decide) (Dj _)
 have c3:=Y2 p.b (kQ (Rl p u)) (kE (Rl p u) (kE (Gu p u) e)) hp.b (Dj _)
 refine FnW.of Tryz.func300 Tryz.ntmps300 rfl rfl rfl ?_
 intro k o
 simp only[Ak]
 repeat' first|refine W ?_|refine Zbl ?_|refine Zbm ?_|refine Zb9 ?_|refine Zba ?_|refine Zd3 ?_|refine Zb3 c1 ?_|refine Zb1 c1 ?_|refine Zb3 c2 ?_|refine Zb1 c2 ?_|refine Zb3 c3 ?_|refine Zb1 c3 ?_|refine Dw 12 ?_|refine Dv 12 ?_|refine V ?_|refine W2 ?_ ?_<;>intro hc
 exact Hh [A0 (frR (Q3 p u))] (.inr rfl) (.cons (Res.row (frR (Q3 p u)) rfl rfl rfl rfl rfl) .nil) rfl rfl rfl
theorem Lr(p q:Rat):Ay p q<=0↔p<=q:=by
 unfold Ay
 by_cases h1:p<q
 ·rw[if_pos h1];simp[a1e h1]
 ·rw[if_neg h1]
  by_cases h2:q<p
  ·rw[if_pos h2];simp[a2w.2 h2]
  ·rw[if_neg h2];simp[a1j.1 h2]
theorem Dr(p q:Rat):Ay p q<0↔p<q:=by
 unfold Ay
 by_cases h1:p<q
 ·rw[if_pos h1];simp[h1]
 ·rw[if_neg h1]
  by_cases h2:q<p
  ·rw[if_pos h2];simp[h1]
  ·rw[if_neg h2];simp[h1]
theorem Ch(p q:Rat)(hp:Fits p)(hq:Fits q):Fz 98 [A0 (frR p),A0 (frR q)] (.i (Ay p q)):=by
 have c:=Rg p q hp hq
 refine Fo Tryz.func98 ?_
 repeat' first|refine WX ?_|refine W2 ?_ ?_<;>intro hc
 exact Dd rfl rfl rfl
def A6(l:List PcQ)(k:Nat):PcQ:=l.getD k default
theorem Bs{l:List PcQ}{k:Nat}{x:PcQ}(h:l[k]?=some x):A6 l k=x:=by
 unfold A6
 rw[a0i,h];rfl
def pcK(l:List PcQ)(t:Rat):Nat->Int
 |0=> -1
 |k+1=>if(A6 l k).f<=t then(k:Int)else pcK l t k
def pcI(l:List PcQ)(t:Rat):Int:=pcK l t l.length
theorem N8(l:List PcQ)(t:Rat):∀k:Nat,-1<=pcK l t k/\pcK l t k<k
 |0=>by simp[pcK]
 |k+1=>by
  have:=N8 l t k
  simp only[pcK]
  split<;>omega
def okC(l:List PcQ):Prop:=∀p∈l,p.ok
theorem A5t(l:List PcQ):∀r∈l.map PcQ.row,r.length=8:=by
 intro r hr
 obtain⟨p,_,rfl⟩:=a1d.1 hr
 rfl
theorem Z7(l:List PcQ)(t:Rat)(hl:okC l)(hn:l.length<=1000)(ht:Fits t):Fz 176 [.sl (l.map PcQ.row),A0 (frR t)] (.i (pcI l t)):=by
 have hle:=lmA l PcQ.row
 refine Fo Tryz.func176 ?_
 repeat' first|refine WX ?_|refine W2 ?_ ?_<;>intro hc
 refine p0c (fun k=>k<=l.length) (fun k=>l.length-k) (fun k=>[(10,.i (k:Int)),(9,.i ((l.map PcQ.row).length:Nat)),(8,.sl (l.map PcQ.row)),(5,.i (pcK l t k)),(3,.ptr 0 0)]) (fun k=>[.live ((frR t).map .lf)]) 0 (a0k _) CV (.live rfl .nil) ?_
 intro k hk
 by_cases hlt:k<l.length
 ·have h1:(k:Int)<((l.map PcQ.row).length:Nat):=by omega
  obtain⟨x,hx⟩:=A2 hlt
  have hb:=A3 (R:=PcQ.row) hx
  have hok:=hl x (a0a hx)
  have c:=Ch x.f t hok.f ht
  have hs:pcK l t (k+1)=if x.f<=t then(k:Int)else pcK l t k:=by simp only[pcK,Bs hx]
  by_cases hc:x.f<=t
  ·have hc':Ay x.f t<=0:=(Lr _ _).2 hc
   repeat' first|refine WY ?_|refine Zb5 ?_|refine V ?_|refine W2 ?_ ?_<;>intro hc
   exact Next.go (k+1) (by omega) (by omega) (.cons rfl rfl (.cons rfl rfl (.cons rfl rfl (.cons (by rw[hs,if_pos hc];rfl) rfl (.cons rfl rfl .nil))))) (.live rfl .nil)
  ·have hc':¬Ay x.f t<=0:=fun e=>hc ((Lr _ _).1 e)
   repeat' first|refine WY ?_|refine Zb5 ?_|refine V ?_|refine W2 ?_ ?_<;>intro hc
   exact Next.go (k+1) (by omega) (by omega) (.cons rfl rfl (.cons rfl rfl (.cons rfl rfl (.cons (by rw[hs,if_neg hc];rfl) rfl (.cons rfl rfl .nil))))) (.live rfl .nil)
 ·have h1:¬(k:Int)<((l.map PcQ.row).length:Nat):=by omega
  obtain rfl:k=l.length:=by omega
  repeat' first|refine WX ?_|refine W2 ?_ ?_<;>intro hc
  exact Dd rfl rfl rfl
def atQ(l:List PcQ)(t:Rat):Rat:=if pcI l t<0 then(A6 l 0).a else Ms (A6 l (pcI l t).toNat) (kQ (t-(A6 l (pcI l t).toNat).f))
def atE(l:List PcQ)(t:Rat)(e:Int):Int:=if pcI l t<0 then e else Ir (A6 l (pcI l t).toNat) (kQ (t-(A6 l (pcI l t).toNat).f)) (kE (t-(A6 l (pcI l t).toNat).f) e)
theorem O1{l:List PcQ}{t:Rat}(h:¬pcI l t<0):l[(pcI l t).toNat]?=some (A6 l (pcI l t).toNat):=by
 have:=(N8 l t l.length).2
 have h2:(pcI l t).toNat<l.length:=by unfold pcI at*;omega
 rw[a0b h2]
 unfold A6
 rw[a0i,a0b h2];rfl
def vF(n d:Int):Prop:=Dq n d=true
instance (n d:Int):Decidable (vF n d):=by unfold vF;exact inferInstance
theorem Lj(n d:Int):Fz 71 [A0 [.i n,.i d]] (.b (decide (vF n d))):=by
 have:=I3 n d
 rwa[show Dq n d=decide (vF n d) by unfold vF;exact b2p.symm]at this
structure pieceP(p:PieceR):Prop where
 f:vF p.f1 p.f2
 a:vF p.a1 p.a2
 b:vF p.b1 p.b2
 c:vF p.c1 p.c2
instance (p:PieceR):Decidable (pieceP p):=decidable_of_iff (vF p.f1 p.f2/\vF p.a1 p.a2/\vF p.b1 p.b2/\vF p.c1 p.c2) ⟨fun⟨a,b,c,d⟩=>⟨a,b,c,d⟩,fun⟨a,b,c,d⟩=>⟨a,b,c,d⟩⟩
def toQ(p:PieceR):PcQ:=⟨A4 p.f1 p.f2,A4 p.a1 p.a2,A4 p.b1 p.b2,A4 p.c1 p.c2⟩
theorem Hy{n d:Int}(h:vF n d):Fits (A4 n d)/\(A4 n d).num=n/\((A4 n d).den:Int)=d:=by
 obtain⟨e1,e2⟩:=Ll h
 obtain⟨a1,a2,a3,a4,_⟩:=validB_spec.1 h
 exact⟨⟨by rw[e1];omega,by omega⟩,e1,e2⟩
theorem pieceP.ok{p:PieceR}(h:pieceP p):(toQ p).ok/\(toQ p).row=p.row:=by
 obtain⟨h1,h2,h3⟩:=Hy h.f
 obtain⟨i1,i2,i3⟩:=Hy h.a
 obtain⟨j1,j2,j3⟩:=Hy h.b
 obtain⟨k1,k2,k3⟩:=Hy h.c
 exact⟨⟨h1,i1,j1,k1⟩,by simp only[PcQ.row,PieceR.row,toQ,h2,h3,i2,i3,j2,j3,k2,k3]⟩
instance :Inhabited PieceR:=⟨⟨0,0,0,0,0,0,0,0⟩⟩
def Lg(l:List PieceR)(k:Nat):Rat:=(toQ (l.getD k default)).f
theorem Ek{l:List PieceR}{k:Nat}{x:PieceR}(h:l[k]?=some x):Lg l k=(toQ x).f:=by
 unfold Lg
 rw[a0i,h];rfl
def J9(l:List PieceR):Prop:=(1<=l.length/\l.length<=200)/\(∀p∈l,pieceP p)/\∀i,i<l.length-1->Lg l i<Lg l (i+1)
instance (l:List PieceR):Decidable (J9 l):=by unfold J9;exact inferInstance
theorem A1g{l:List PieceR}{k:Nat}(h:k+1<l.length):∃y,l[k]?=some y:=⟨l[k]'(by omega),a0b (by omega)⟩
theorem Z8(l:List PieceR)(hn:l.length<=1000000):Fz 93 [.sl (l.map PieceR.row)] (.b (decide (J9 l))):=by
 have hle:=lmA l PieceR.row
 by_cases h1:(((l.map PieceR.row).length:Nat):Int)<1
 ·skip
  refine Fo b3j ?_
  repeat' first|refine WX ?_|refine W2 ?_ ?_<;>intro hc
  exact Dd rfl rfl (congrArg Value.bool (decide_eq_false fun h=>by have:=h.1.1;omega).symm)
 by_cases h2:200<(((l.map PieceR.row).length:Nat):Int)
 ·skip
  refine Fo b3j ?_
  repeat' first|refine WX ?_|refine W2 ?_ ?_<;>intro hc
  exact Dd rfl rfl (congrArg Value.bool (decide_eq_false fun h=>by have:=h.1.2;omega).symm)
 refine Fo b3j ?_
 repeat' first|refine WX ?_|refine W2 ?_ ?_<;>intro hc
 refine p0c (fun k=>k<=l.length/\(∀p∈l.take k,pieceP p)/\∀i,i+1<k->Lg l i<Lg l (i+1)) (fun k=>l.length-k) (fun k=>[(15,.i (k:Int)),(14,.i ((l.map PieceR.row).length:Nat)),(13,.sl (l.map PieceR.row)),(0,.sl (l.map PieceR.row))]) (fun k=>[]) 0 ⟨a0k _,by simp,fun i hi=>by omega⟩ CV .nil ?_
 rintro k ⟨hk,hp,hs⟩
 by_cases hlt:k<l.length
 ·have h3:(k:Int)<((l.map PieceR.row).length:Nat):=by omega
  obtain⟨x,hx⟩:=A2 hlt
  have hb:=A3 (R:=PieceR.row) hx
  have hmem:=a0a hx
  have v1:=Lj x.f1 x.f2
  have v2:=Lj x.a1 x.a2
  have v3:=Lj x.b1 x.b2
  have v4:=Lj x.c1 x.c2
  by_cases w1:vF x.f1 x.f2/\vF x.a1 x.a2/\vF x.b1 x.b2/\vF x.c1 x.c2
  ·obtain⟨w1,w2,w3,w4⟩:=w1
   have hpx:pieceP x:=⟨w1,w2,w3,w4⟩
   have hp':∀p∈l.take (k+1),pieceP p:=by
    intro p hm
    rw[a0u,hx]at hm
    rcases a0p.1 hm with hm|hm
    ·exact hp p hm
    ·obtain rfl:p=x:=by simpa using hm
     exact hpx
   have n1:¬¬vF x.f1 x.f2:=fun h=>h w1
   have n2:¬¬vF x.a1 x.a2:=fun h=>h w2
   have n3:¬¬vF x.b1 x.b2:=fun h=>h w3
   have n4:¬¬vF x.c1 x.c2:=fun h=>h w4
   cases k with
   |zero=>
    have h5:¬(0:Int)<((0:Nat):Int):=by omega
    repeat' first|refine WY ?_|refine Zb5 ?_|refine Da ?_|refine V ?_|refine W2 ?_ ?_<;>intro hc
    exact Next.go 1 ⟨by omega,hp',fun i hi=>by omega⟩ (by omega) CV .nil
   |succ k=>
    have h5:(0:Int)<((k+1:Nat):Int):=by omega
    obtain⟨y,hy⟩:=A1g hlt
    have hpy:pieceP y:=hp y (a0a (by rw[a1o (a3n k)];exact hy))
    have hby:(l.map PieceR.row)[(((k+1:Nat):Int)-1).toNat]?=some y.row:=by rw[show(((k+1:Nat):Int)-1).toNat=k by omega,a0d,hy];rfl
    have hcmp:Fz 98 [A0 [.i y.f1,.i y.f2],A0 [.i x.f1,.i x.f2]] (.i (Ay (toQ y).f (toQ x).f)):=by
     have:=Ch (toQ y).f (toQ x).f hpy.ok.1.f hpx.ok.1.f
     obtain⟨_,e1,e2⟩:=Hy hpy.f
     obtain⟨_,e3,e4⟩:=Hy hpx.f
     simp only[toQ,frR,e1,e2,e3,e4]at this⊢
     exact this
    by_cases hc:(toQ y).f<(toQ x).f
    ·have hc':¬0<=Ay (toQ y).f (toQ x).f:=fun e=>by have:=(Dr _ _).2 hc;omega
     repeat' first|refine WY ?_|refine Zb5 ?_|refine Da ?_|refine V ?_|refine W2 ?_ ?_<;>intro hc
     refine Next.go (k+2) ⟨by omega,hp',fun i hi=>?_⟩ (by omega) CV .nil
     by_cases hik:i=k
     ·subst hik
      rw[Ek hy,Ek hx];exact hc
     ·exact hs i (by omega)
    ·have hc':0<=Ay (toQ y).f (toQ x).f:=by
      rcases a5q (Ay (toQ y).f (toQ x).f) 0 with h|h
      ·exact absurd ((Dr _ _).1 h) hc
      ·exact h
     repeat' first|refine WY ?_|refine Zb5 ?_|refine Da ?_|refine V ?_|refine W2 ?_ ?_<;>intro hc
     exact Dd rfl rfl (congrArg Value.bool (decide_eq_false fun h=>hc (by have:=h.2.2 k (by omega);rwa[Ek hy,Ek hx]at this)).symm)
  ·repeat' first|refine WY ?_|refine Zb5 ?_|refine Da ?_|refine V ?_|refine W2 ?_ ?_<;>intro hc
   all_goals first
    |exact Dd rfl rfl (congrArg Value.bool (decide_eq_false fun h=>w1 (by have:=h.2.1 x hmem;exact⟨this.f,this.a,this.b,this.c⟩)).symm)
    |(exfalso;simp_all;done)
 ·have h3:¬(k:Int)<((l.map PieceR.row).length:Nat):=by omega
  repeat' first|refine WX ?_|refine W2 ?_ ?_<;>intro hc
  exact Dd rfl rfl (congrArg Value.bool (decide_eq_true ⟨⟨by omega,by omega⟩,by rw[a0g (by omega)]at hp;exact hp,fun i hi=>hs i (by omega)⟩).symm)
theorem Aaw(l:List PcQ)(t:Rat)(hl:okC l)(h0:l≠[])(hn:l.length<=1000)(ht:Fits t)(hv:Fz 93 [.sl (l.map PcQ.row)] (.b true)):Fz 95 [.sl (l.map PcQ.row),A0 (frR t)] (K5 (atQ l t) (atE l t 0)):=by
 have c:=Z7 l t hl hn ht
 have v1:Fz 71 [A0 (frR t)] (.b true):=by
  have:=I3 t.num t.den
  rwa[ht.valid]at this
 unfold atQ atE
 by_cases h:pcI l t<0
 ·rw[if_pos h,if_pos h]
  obtain⟨x,hx⟩:∃x,l[0]?=some x:=⟨l[0]'(a1i.2 h0),a0b _⟩
  have hb:(l.map PcQ.row)[(0:Int).toNat]?=some x.row:=by rw[show(0:Int).toNat=0 from rfl,a0d,hx];rfl
  rw[Bs hx]
  refine Fo b3k ?_
  repeat' first|refine WY ?_|refine Dw 4 ?_|refine Dv 4 ?_|refine V ?_|refine W2 ?_ ?_<;>intro hc
  exact D3 rfl rfl rfl rfl rfl rfl rfl
 ·rw[if_neg h,if_neg h]
  have hx:=O1 h
  generalize hxe:A6 l (pcI l t).toNat=x at hx
  have hb:(l.map PcQ.row)[(pcI l t).toNat]?=some x.row:=by rw[a0d,hx];rfl
  have hok:=hl x (a0a hx)
  have c1:=T2 t x.f 0 ht hok.f
  have c2:=Zx x (kQ (t-x.f)) (kE (t-x.f) 0) hok (Dj _)
  have c3:=A4h (Ms x (kQ (t-x.f))) (Ir x (kQ (t-x.f)) (kE (t-x.f) 0))
  generalize hw:Ir x (kQ (t-x.f)) (kE (t-x.f) 0)=e at c2 c3
  generalize hq:Ms x (kQ (t-x.f))=q at c2 c3
  unfold K5 at c3⊢
  by_cases he:e=0
  ·subst he
   rw[if_pos rfl]at c3⊢
   refine Fo b3k ?_
   repeat' first|refine WY ?_|(refine T.heat 2 [.i 0] rfl rfl ?_;intro k o)|refine Zbl ?_|refine Zbm ?_|refine Zb9 ?_|refine Zba ?_|refine Zb3 c1 ?_|refine Zb1 c1 ?_|refine Zb3 c2 ?_|refine Zb1 c2 ?_|refine Zb3 c3 ?_|refine Zb1 c3 ?_|refine Zb5 ?_|refine Dw 18 ?_|refine Dv 18 ?_|refine V ?_|refine W2 ?_ ?_<;>intro hc
   exact D3 rfl rfl rfl rfl rfl rfl rfl
  ·rw[if_neg he]at c3⊢
   refine Fo b3k ?_
   repeat' first|refine WY ?_|(refine T.heat 2 [.i 0] rfl rfl ?_;intro k o)|refine Zbl ?_|refine Zbm ?_|refine Zb9 ?_|refine Zba ?_|refine Zb3 c1 ?_|refine Zb1 c1 ?_|refine Zb3 c2 ?_|refine Zb1 c2 ?_|refine Zb3 c3 ?_|refine Zb1 c3 ?_|refine Zb5 ?_|refine Dw 18 ?_|refine Dv 18 ?_|refine V ?_|refine W2 ?_ ?_<;>intro hc
   exact D3 rfl rfl rfl rfl rfl rfl rfl
end Go.Proofs.YtcaicpnepfjcmaaGreat
