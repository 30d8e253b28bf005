/- Lemmas of the proof. -/
import Derived.Test.YtcaicpnepfjcmaaGreatNn
set_option linter.all false
set_option maxHeartbeats 64000000
namespace Go.Proofs.YtcaicpnepfjcmaaGreat
open Go Go.RowKit
def a4f:= @Rat.intCast_le_intCast
def a4k:= @Rat.lt_of_le_of_ne
def a4t:= @Rat.num_nonneg
def b1f:= @Int.sign_eq_zero_iff_zero
def b1j:= @Int.not_le
def b1p:= @Int.add_mul_ediv_right
def b1t:= @Int.ediv_lt_of_lt_mul
def b3q:= @Rat.lt_iff_sub_pos
def atS(l:List PcQ)(t:Rat):Rat:=if pcI l t<0 then 0 else Q3 (A6 l (pcI l t).toNat) (kQ (t-(A6 l (pcI l t).toNat).f))
def L1(l:List PcQ)(t:Rat)(e:Int):Int:=if pcI l t<0 then e else L9 (A6 l (pcI l t).toNat) (kQ (t-(A6 l (pcI l t).toNat).f)) (kE (t-(A6 l (pcI l t).toNat).f) e)
def atP(l:List PcQ)(t:Rat):PcQ:=if pcI l t<0 then⟨t,(A6 l 0).a,0,0⟩else⟨t,atQ l t,atS l t,(A6 l (pcI l t).toNat).c⟩
def Eu(l:List PcQ)(t:Rat)(e:Int):Int:=if pcI l t<0 then e else
 L9 (A6 l (pcI l t).toNat) (kQ (t-(A6 l (pcI l t).toNat).f)) (Ir (A6 l (pcI l t).toNat) (kQ (t-(A6 l (pcI l t).toNat).f)) (kE (t-(A6 l (pcI l t).toNat).f) e))
theorem Wx(l:List PcQ)(t:Rat)(e:Int)(hl:okC l)(h0:l≠[])(hn:l.length<=1000)(ht:Fits t):FnW Tryz.prog 286 [.i e] [.sl (l.map PcQ.row),A0 (frR t)] [.i (Eu l t e)] (A0 (atP l t).row):=by
 have c:=Z7 l t hl hn ht
 have z:=Pk
 unfold atP Eu
 by_cases h:pcI l t<0
 ·rw[if_pos h,if_pos h]
  obtain⟨x,hx⟩:∃x,l[0]?=some x:=⟨l[0]'(a1i.2 h0),a0b _⟩
  have hb:(l.map PcQ.row)[(0:Int).toNat]?=some x.row:=by rw[show(0:Int).toNat=0 from rfl,a0d,hx];rfl
  rw[Bs hx]
  refine FnW.of Tryz.func286 Tryz.ntmps286 rfl rfl rfl ?_
  intro k o
  simp only[Ak]
  repeat' first|refine WY ?_|refine Zbl ?_|refine Zbm ?_|refine Zb9 ?_|refine Zba ?_|refine Zd3 ?_|refine Dw 8 ?_|refine Dv 8 ?_|refine V ?_|refine W2 ?_ ?_<;>intro hc
  exact Hh [A0 (PcQ.row ⟨t,x.a,0,0⟩)] (.inr rfl) (.cons (Res.row (PcQ.row ⟨t,x.a,0,0⟩) rfl rfl rfl rfl rfl) .nil) rfl rfl rfl
 ·unfold atQ atS
  rw[if_neg h,if_neg h,if_neg h,if_neg h]
  have hx:=O1 h
  generalize hxe:A6 l (pcI l t).toNat=x at hx
  have hb:(l.map PcQ.row)[(pcI l t).toNat]?=some x.row:=by rw[a0d,hx];rfl
  have hok:=hl x (a0a hx)
  have c1:=T2 t x.f e ht hok.f
  have c2:=Zx x (kQ (t-x.f)) (kE (t-x.f) e) hok (Dj _)
  have c3:=Acc x (kQ (t-x.f)) (Ir x (kQ (t-x.f)) (kE (t-x.f) e)) hok (Dj _)
  refine FnW.of Tryz.func286 Tryz.ntmps286 rfl rfl rfl ?_
  intro k o
  simp only[Ak]
  repeat' first|refine WY ?_|refine Zbl ?_|refine Zbm ?_|refine Zb9 ?_|refine Zba ?_|refine Zd3 ?_|refine Zb3 c1 ?_|refine Zb1 c1 ?_|refine Zb3 c2 ?_|refine Zb1 c2 ?_|refine Zb3 c3 ?_|refine Zb1 c3 ?_|refine Zb5 ?_|refine Dw 21 ?_|refine Dv 21 ?_|refine Da ?_|refine V ?_|refine W2 ?_ ?_<;>intro hc
  exact Hh [A0 (PcQ.row ⟨t,Ms x (kQ (t-x.f)),Q3 x (kQ (t-x.f)),x.c⟩)] (.inr rfl) (.cons (Res.row (PcQ.row ⟨t,Ms x (kQ (t-x.f)),Q3 x (kQ (t-x.f)),x.c⟩) rfl rfl rfl rfl rfl) .nil) rfl rfl rfl
theorem A4d(q:Rat)(hq:Fits q):Fz 251 [A0 (frR q)] (.tup [.i (q.num/q.den),.i 0]):=Af1 q hq
def Ca(q:Rat):Int:=1000*q.num/q.den
def Je(q:Rat):Prop:=1000*q.num%q.den=0
instance (q:Rat):Decidable (Je q):=by unfold Je;exact inferInstance
structure Mid(q:Rat):Prop where
 fits:Fits q
 lo: -1099511627776<=q.num/q.den
 hi:q.num/q.den<=1099511627776
theorem Mid.mil{q:Rat}(h:Mid q): -1099511627776000<=Ca q/\Ca q<=1099511627776999:=by
 obtain⟨_,h1,h2⟩:=h
 have hd:=q.den_pos
 obtain⟨d,hd'⟩:∃d:Int,(q.den:Int)=d:=⟨_,rfl⟩
 have hdp:0<d:=by omega
 unfold Ca
 rw[hd']at h1 h2⊢
 have e1:=a8o q.num d
 have e2:=a4v q.num (show d≠0 by omega)
 have e3:=a5d q.num hdp
 have key:1000*q.num/d=1000*(q.num/d)+1000*(q.num%d)/d:=by
  have:1000*q.num=1000*(q.num%d)+(1000*(q.num/d))*d:=by grind
  rw[this,b1p _ _ (by omega)];omega
 have h3:0<=1000*(q.num%d)/d:=a1y (by omega) (by omega)
 have h4:1000*(q.num%d)/d<1000:=b1t hdp (by omega)
 omega
theorem Rd(q:Rat)(h:Mid q):Fz 184 [A0 (frR q)] (.tup [.i (Ca q),.b (decide (Je q))]):=by
 have hm:=h.mil
 obtain⟨hf,h1,h2⟩:=h
 have c1:=A4d q hf
 have hd:=q.den_pos
 obtain⟨d,hd'⟩:∃d:Int,(q.den:Int)=d:=⟨_,rfl⟩
 have hdp:0<d:=by omega
 have hdm:d<=1152921504606846976:=by have:=hf.2;omega
 have hn:=hf.1
 have e1:=a8o q.num d
 have e2:=a4v q.num (show d≠0 by omega)
 have e3:=a5d q.num hdp
 obtain⟨r,hr⟩:∃r:Nat,(r:Int)=q.num%d:=⟨(q.num%d).toNat,by omega⟩
 obtain⟨f,hfl⟩:∃f:Int,q.num/d=f:=⟨_,rfl⟩
 have hfd:f*d=q.num-r:=by rw[<-hfl,a5r];omega
 have c2:=A0v r 1000 (by omega) (by decide)
 have p1:((r*1000/18446744073709551616:Nat):Int)<d:=by omega
 have c3:=A0u ((r*1000/18446744073709551616:Nat):Int) ((r*1000%18446744073709551616:Nat):Int) d (by omega) p1 (by omega) (by omega) (by omega)
 rw[show((r*1000/18446744073709551616:Nat):Int)*18446744073709551616+((r*1000%18446744073709551616:Nat):Int)=1000*r by omega]at c3
 have g1:IntKind.u64.wrap (q.num-f*d)=(r:Int):=by rw[hfd,C7];omega
 have g2:IntKind.u64.wrap d=d:=by rw[C7];omega
 have h3:0<=1000*(r:Int)/d:=a1y (by omega) (by omega)
 have h4:1000*(r:Int)/d<1000:=b1t hdp (by omega)
 have g3:IntKind.i64.wrap (1000*(r:Int)/d)=1000*(r:Int)/d:=Dy _ (by omega)
 have h5:1000*q.num=1000*(r:Int)+(1000*f)*d:=by rw[a3x,hfd];omega
 have key:Ca q=1000*f+1000*(r:Int)/d:=by
  unfold Ca
  rw[hd',h5,b1p _ _ (by omega)];omega
 have keyX:Je q↔1000*(r:Int)%d=0:=by
  unfold Je
  rw[hd',h5,Int.add_mul_emod_self_right]
 rw[hd']at h1 h2
 rw[hfl]at h1 h2
 simp only[frR]at c1⊢
 rw[hd',hfl]at c1
 rw[hd']
 refine Fo Tryz.func184 ?_
 repeat' first|refine WY ?_|(apply S.arith;(iterate 4 exact rfl);first|omega|(rw[hfd];omega))|refine Zb6 g1 ?_|refine Zb6 g2 ?_|refine Zb6 g3 ?_|refine V ?_|refine W2 ?_ ?_<;>intro hc
 exact⟨.inr rfl,[.i (Ca q),.b (decide (Je q))],.cons (.tmp (by rw[key];rfl)) (.cons (.tmp (congrArg (fun b=>some (AV.b b)) (decide_eq_decide.2 keyX.symm))) .nil),.tup (.cons (.one (.lf _)) (.cons (.one (.lf _)) .nil))⟩
def enQ(q:Rat):List Lf:=if Je q then[.i (Ca q),.i (Ca q)]else[.i (Ca q),.i (Ca q+1)]
theorem Jk(q:Rat)(h:Mid q):Fz 105 [A0 (frR q)] (A0 (enQ q)):=by
 have hm:=h.mil
 have c:=Rd q h
 unfold enQ
 by_cases hx:Je q
 ·rw[if_pos hx]
  refine Fo Tryz.func105 ?_
  repeat' first|refine WX ?_|refine W2 ?_ ?_<;>intro hc
  exact D4 rfl rfl rfl rfl rfl rfl
 ·rw[if_neg hx]
  refine Fo Tryz.func105 ?_
  repeat' first|refine WX ?_|refine W2 ?_ ?_<;>intro hc
  exact D4 rfl rfl rfl rfl rfl rfl
def C2(q:Rat):Prop:= -1099511627776<=q/\q<=1099511627776
instance (q:Rat):Decidable (C2 q):=by unfold C2;exact inferInstance
theorem Wi(q:Rat)(h:Fits q):Fz 99 [A0 (frR q)] (.b (decide (C2 q))):=by
 have c1:Fz 98 [A0 (frR q),A0 [.i (-1099511627776),.i 1]] (.i (Ay q (-1099511627776))):=Ch q (-1099511627776) h (by decide)
 have c2:Fz 98 [A0 (frR q),A0 [.i 1099511627776,.i 1]] (.i (Ay q 1099511627776)):=Ch q 1099511627776 h (by decide)
 have k1:0<=Ay q (-1099511627776)↔-1099511627776<=q:=by
  have:=Dr q (-1099511627776)
  rw[<-a1j,<-this];omega
 have k2:=Lr q 1099511627776
 refine Fo Tryz.func99 ?_
 repeat' first|refine WX ?_|refine W2 ?_ ?_<;>intro hc
 all_goals first
  |exact Dd rfl rfl (congrArg Value.bool (by symm;apply decide_eq_false;unfold C2;rw[<-k1,<-k2];omega))
  |exact Dd rfl rfl (congrArg Value.bool (decide_eq_decide.2 (by unfold C2;rw[<-k1,<-k2];omega)))
theorem H6{q:Rat}(hf:Fits q)(h:C2 q):Mid q:=by
 obtain⟨h1,h2⟩:=h
 refine⟨hf,?_,?_⟩
 ·rw[<-Rat.floor_def,Rat.le_floor_iff]
  exact h1
 ·rw[<-Rat.floor_def]
  have h3:((q.floor:Int):Rat)<=q:=Rat.le_floor_iff.1 (a4w _)
  have h4:((q.floor:Int):Rat)<=((1099511627776:Int):Rat):=a1c h3 h2
  exact a4f.1 h4
/-! ### Parts over rational numbers -/
def vR(p:PcQ)(t:Rat):Rat:=p.a+(p.b+p.c*(t-p.f))*(t-p.f)
def sR(p:PcQ)(t:Rat):Rat:=p.b+p.c*(t-p.f)+p.c*(t-p.f)
def C6(p:PcQ)(a b:Rat):Prop:=a<b/\((vR p a<0\/vR p b<0)\/(0<p.c/\sR p a<0/\0<sR p b/\4*p.a*p.c-p.b*p.b<0))
instance (p:PcQ)(a b:Rat):Decidable (C6 p a b):=by unfold C6;exact inferInstance
theorem Hv{r:Rat}:sgQ r<0↔r<0:=by
 unfold sgQ
 rw[Int.sign_neg_iff,<-b1j,a4t,a2w]
theorem Uv{r:Rat}:sgQ r=0↔r=0:=by
 unfold sgQ
 rw[b1f,a6f]
theorem Sz{r:Rat}:0<sgQ r↔0<r:=by
 have h1:= @Hv r
 have h2:= @Uv r
 have h3: -1<=sgQ r/\sgQ r<=1:=by
  unfold sgQ
  rcases a5l r.num 0 with h|h|h
  ·rw[a4y h];decide
  ·rw[h];decide
  ·rw[a4e h];decide
 constructor
 ·intro h
  have n1:¬r<0:=fun e=>by have:=h1.2 e;omega
  have n2:r≠0:=fun e=>by have:=h2.2 e;omega
  exact a4k (a1j.1 n1) (b3b n2)
 ·intro h
  have n1:¬sgQ r<0:=fun e=>a1j.2 (a1e h) (h1.1 e)
  have n2:sgQ r≠0:=fun e=>by rw[h2.1 e]at h;exact Rat.lt_irrefl h
  omega
abbrev PcQ.pt(p:PcQ):Pt:=Pt.ofQ p.f p.a p.b p.c
theorem PcQ.ok.pt{p:PcQ}(h:p.ok):p.pt.ok:=⟨bd_ofQ h.f,bd_ofQ h.a,bd_ofQ h.b,bd_ofQ h.c⟩
theorem Sm{p:PcQ}{t:Ex}(ht:0<t.d):(p.pt.value t).val=vR p t.val:=by
 unfold Pt.value vR
 have d1:0<(t.less p.pt.f).d:=a5i ht p.f.den_pos
 have d2:0<(p.pt.c.times (t.less p.pt.f)).d:=a5i p.c.den_pos d1
 have d3:0<(p.pt.b.plus (p.pt.c.times (t.less p.pt.f))).d:=a5i p.b.den_pos d2
 have d4:0<((p.pt.b.plus (p.pt.c.times (t.less p.pt.f))).times (t.less p.pt.f)).d:=a5i d3 d1
 rw[Ex.val_plus p.a.den_pos d4,Ex.val_times,Ex.val_plus p.b.den_pos d2,Ex.val_times,Ex.val_less ht p.f.den_pos]
 simp only[Pt.ofQ,Ex.val_ofQ]
theorem R9{p:PcQ}{t:Ex}(ht:0<t.d):(p.pt.slope t).val=sR p t.val:=by
 unfold Pt.slope sR
 have d1:0<(t.less p.pt.f).d:=a5i ht p.f.den_pos
 have d2:0<(p.pt.c.times (t.less p.pt.f)).d:=a5i p.c.den_pos d1
 have d3:0<(p.pt.b.plus (p.pt.c.times (t.less p.pt.f))).d:=a5i p.b.den_pos d2
 rw[Ex.val_plus d3 d2,Ex.val_plus p.b.den_pos d2,Ex.val_times,Ex.val_less ht p.f.den_pos]
 simp only[Pt.ofQ,Ex.val_ofQ]
theorem Ada:four.val=4:=by rw[p3l];rfl
theorem Aeb(p:PcQ):p.pt.disc.val=4*p.a*p.c-p.b*p.b:=by
 unfold Pt.disc
 have d1:0<(four.times p.pt.a).d:=a5i (by decide) p.a.den_pos
 have d2:0<((four.times p.pt.a).times p.pt.c).d:=a5i d1 p.c.den_pos
 have d3:0<(p.pt.b.times p.pt.b).d:=a5i p.b.den_pos p.b.den_pos
 rw[Ex.val_less d2 d3,Ex.val_times,Ex.val_times,Ex.val_times,Ada]
 simp only[Pt.ofQ,Ex.val_ofQ]
theorem F0{p:PcQ}{a b:Ex}(ha:0<a.d)(hb:0<b.d):p.pt.belowS a b↔C6 p a.val b.val:=by
 unfold Pt.belowS C6
 rw[Ex.val_less hb ha,Sm ha,Sm hb,R9 ha,R9 hb,Aeb,Sz,Hv,Hv,Sz,Hv,Sz,Hv,show p.pt.c.val=p.c from Ex.val_ofQ _]
 rw[show(0<b.val-a.val↔a.val<b.val)from(b3q _ _).symm]
def bis(B:Int->Prop)[DecidablePred B]:Nat->Int->Int->Int
 |0,lo,_=>lo
 |n+1,lo,hi=>if 1<hi-lo then(if B (lo+(hi-lo)/2)then bis B n lo (lo+(hi-lo)/2)else bis B n (lo+(hi-lo)/2) hi)else lo
def mil(m:Int):Rat:=mkRat m 1000
theorem Nz(m:Int):(p1d m 1000).val=mil m:=p3l m 1000
def Ei(b t:Rat):Rat:=if b<t then b else t
abbrev Gs(p:PcQ)(a b:Rat)(m:Int):Prop:=C6 p a (Ei b (mil m))
def Ki(p:PcQ)(a b:Rat):Int:=bis (Gs p a b) 64 (Ca a) (Ca b+2)
def Nj(p:PcQ)(a:Rat)(m:Int):Prop:=a<=mil m/\vR p (mil m)=0/\(sR p (mil m)<0\/sR p (mil m)=0/\p.c<0)
instance (p:PcQ)(a:Rat)(m:Int):Decidable (Nj p a m):=by unfold Nj;exact inferInstance
def Ig(p:PcQ)(a b:Rat):List Lf:=if Nj p a (Ki p a b)then[.i (Ki p a b),.i (Ki p a b)]else[.i (Ki p a b),.i (Ki p a b+1)]
structure BisS where
 n:Nat
 lo:Int
 hi:Int
theorem Ahp{B:Int->Prop}[DecidablePred B]{n:Nat}{lo hi:Int}(h:¬1<hi-lo):bis B n lo hi=lo:=by
 cases n with
 |zero=>rfl
 |succ n=>rw[bis,if_neg h]
theorem A91{n:Int}(h0: -9223372036854775808<=n)(h1:n<=9223372036854775807):(p1d n 1000).bd 2:=by
 have:(4294967296:Nat)^2=18446744073709551616:=by decide
 refine⟨?_,by show(1000:Nat)<_;omega,by show 0<(1000:Nat);omega⟩
 show n.natAbs<_
 omega
theorem Pf(p:PcQ)(a b:Rat)(hp:p.ok)(ha:Mid a)(hb:Mid b)(hab:a<=b):Fz 107 [A0 (ptR p.pt),A0 (frR a),A0 (frR b)] (A0 (Ig p a b)):=by
 have hpt:=hp.pt
 have m1:=ha.mil
 have m2:=hb.mil
 have c1:=Rd a ha
 have c2:=Rd b hb
 have oa:=Ja a ha.fits
 have ob:=Ja b hb.fits
 have ba:=bd_ofQ ha.fits
 have bb:=bd_ofQ hb.fits
 refine Fo Tryz.func107 ?_
 repeat' first|refine WX ?_|refine W2 ?_ ?_<;>intro hc
 refine p0c (fun(s:BisS)=>bis (Gs p a b) s.n s.lo s.hi=Ki p a b/\s.n<=64/\s.hi-s.lo<=2^s.n/\ -1099511627776000<=s.lo/\s.lo<=1099511627777002/\ -1099511627776000<=s.hi/\s.hi<=1099511627777002) (fun s=>s.n) (fun s=>[(7,.i s.lo),(9,.i s.hi),(3,.ptr 0 0),(4,.ptr 1 0),(5,.ptr 2 0),(6,.ptr 3 0)])
  (fun s=>[.live ((ptR p.pt).map .lf),.live ((frR a).map .lf),.live ((frR b).map .lf),.live [.i 0,.i 0]]) ⟨64,Ca a,Ca b+2⟩ ⟨rfl,Nat.le_refl _,(by dsimp only;rw[show(2:Int)^64=18446744073709551616 from by decide];omega),(by dsimp only;omega),(by dsimp only;omega),(by dsimp only;omega),(by dsimp only;omega)⟩ CV CH ?_
 rintro⟨n,lo,hi⟩ ⟨hR,hn,hw,g1,g2,g3,g4⟩
 dsimp only at hR hn hw g1 g2 g3 g4⊢
 by_cases hlt:1<hi-lo
 ·cases n with
  |zero=>exfalso;simp only[b1v]at hw;omega
  |succ n=>
  have bm:(p1d (lo+(hi-lo)/2) 1000).bd 2:=A91 (by omega) (by omega)
  have th:=Qa (lo+(hi-lo)/2) (by omega) (by omega)
  have cl:=Lu bm bb (by omega) (by omega)
  have cs:Fz 104 [A0 (exR ((p1d (lo+(hi-lo)/2) 1000).less (Ex.ofQ b)))] (.i (sgQ ((p1d (lo+(hi-lo)/2) 1000).less (Ex.ofQ b)).val)):=Eg (Ex.bd_less bm bb)
  have hcv:0<sgQ ((p1d (lo+(hi-lo)/2) 1000).less (Ex.ofQ b)).val↔b<mil (lo+(hi-lo)/2):=by
   rw[Sz,Ex.val_less bm.2.2 bb.2.2,Ex.val_ofQ,Nz]
   exact(b3q _ _).symm
  by_cases hc:b<mil (lo+(hi-lo)/2)
  ·have hc':=hcv.2 hc
   have cb:=K2 p.pt (Ex.ofQ a) (Ex.ofQ b) hpt ba bb
   by_cases hB:p.pt.belowS (Ex.ofQ a) (Ex.ofQ b)
   ·have hB':Gs p a b (lo+(hi-lo)/2):=by
     have:=(F0 ba.2.2 (bb).2.2).1 hB
     rw[Ex.val_ofQ,Ex.val_ofQ]at this
     rw[Gs,Ei,if_pos hc]
     exact this
    repeat' first|refine WY ?_|refine Zdc ?_|refine Dw 5 ?_|refine Dv 5 ?_|refine Da ?_|refine V ?_|refine W2 ?_ ?_<;>intro hc
    exact Next.go ⟨n,lo,lo+(hi-lo)/2⟩ ⟨by rw[<-hR,bis,if_pos hlt,if_pos hB'],by dsimp only;omega,by dsimp only;rw[Int.pow_succ]at hw;omega,by dsimp only;omega,by dsimp only;omega,by dsimp only;omega,by dsimp only;omega⟩ (Nat.lt_succ_self n) CV CH
   ·have hB':¬Gs p a b (lo+(hi-lo)/2):=by
     have:=mt (F0 ba.2.2 (bb).2.2).2 hB
     rw[Ex.val_ofQ,Ex.val_ofQ]at this
     rw[Gs,Ei,if_pos hc]
     exact this
    repeat' first|refine WY ?_|refine Zdc ?_|refine Dw 5 ?_|refine Dv 5 ?_|refine Da ?_|refine V ?_|refine W2 ?_ ?_<;>intro hc
    exact Next.go ⟨n,lo+(hi-lo)/2,hi⟩ ⟨by rw[<-hR,bis,if_pos hlt,if_neg hB'],by dsimp only;omega,by dsimp only;rw[Int.pow_succ]at hw;omega,by dsimp only;omega,by dsimp only;omega,by dsimp only;omega,by dsimp only;omega⟩ (Nat.lt_succ_self n) CV CH
  ·have hc':¬0<sgQ ((p1d (lo+(hi-lo)/2) 1000).less (Ex.ofQ b)).val:=fun h=>hc (hcv.1 h)
   have cb:=K2 p.pt (Ex.ofQ a) (p1d (lo+(hi-lo)/2) 1000) hpt ba bm
   by_cases hB:p.pt.belowS (Ex.ofQ a) (p1d (lo+(hi-lo)/2) 1000)
   ·have hB':Gs p a b (lo+(hi-lo)/2):=by
     have:=(F0 ba.2.2 (bm).2.2).1 hB
     rw[Ex.val_ofQ,Nz]at this
     rw[Gs,Ei,if_neg hc]
     exact this
    repeat' first|refine WY ?_|refine Zdc ?_|refine Dw 5 ?_|refine Dv 5 ?_|refine Da ?_|refine V ?_|refine W2 ?_ ?_<;>intro hc
    exact Next.go ⟨n,lo,lo+(hi-lo)/2⟩ ⟨by rw[<-hR,bis,if_pos hlt,if_pos hB'],by dsimp only;omega,by dsimp only;rw[Int.pow_succ]at hw;omega,by dsimp only;omega,by dsimp only;omega,by dsimp only;omega,by dsimp only;omega⟩ (Nat.lt_succ_self n) CV CH
   ·have hB':¬Gs p a b (lo+(hi-lo)/2):=by
     have:=mt (F0 ba.2.2 (bm).2.2).2 hB
     rw[Ex.val_ofQ,Nz]at this
     rw[Gs,Ei,if_neg hc]
     exact this
    repeat' first|refine WY ?_|refine Zdc ?_|refine Dw 5 ?_|refine Dv 5 ?_|refine Da ?_|refine V ?_|refine W2 ?_ ?_<;>intro hc
    exact Next.go ⟨n,lo+(hi-lo)/2,hi⟩ ⟨by rw[<-hR,bis,if_pos hlt,if_neg hB'],by dsimp only;omega,by dsimp only;rw[Int.pow_succ]at hw;omega,by dsimp only;omega,by dsimp only;omega,by dsimp only;omega,by dsimp only;omega⟩ (Nat.lt_succ_self n) CV CH
 ·have hlo:Ki p a b=lo:=by rw[<-hR];exact Ahp hlt
  unfold Ig
  rw[hlo]
  clear hR hlo
  have bm:(p1d lo 1000).bd 2:=A91 (by omega) (by omega)
  have th:=Qa lo (by omega) (by omega)
  have cl:=Lu bm ba (by omega) (by omega)
  have cs:Fz 104 [A0 (exR ((p1d lo 1000).less (Ex.ofQ a)))] (.i (sgQ ((p1d lo 1000).less (Ex.ofQ a)).val)):=Eg (Ex.bd_less bm ba)
  have v1:=Pg p.pt (p1d lo 1000) hpt bm
  have v2:Fz 104 [A0 (exR (p.pt.value (p1d lo 1000)))] (.i (sgQ (p.pt.value (p1d lo 1000)).val)):=Eg (Og hpt bm)
  have l1:=Ui p.pt (p1d lo 1000) hpt bm
  have l2:Fz 104 [A0 (exR (p.pt.slope (p1d lo 1000)))] (.i (sgQ (p.pt.slope (p1d lo 1000)).val)):=Eg (Ty hpt bm)
  have s4:Fz 104 [A0 (exR p.pt.c)] (.i (sgQ p.pt.c.val)):=Eg hpt.c
  have hP:Nj p a lo↔0<=sgQ ((p1d lo 1000).less (Ex.ofQ a)).val/\sgQ (p.pt.value (p1d lo 1000)).val=0/\(sgQ (p.pt.slope (p1d lo 1000)).val<0\/sgQ (p.pt.slope (p1d lo 1000)).val=0/\sgQ p.pt.c.val<0):=by
   unfold Nj
   rw[Sm bm.2.2,R9 bm.2.2,Nz,Uv,Hv,Uv,Hv,show p.pt.c.val=p.c from Ex.val_ofQ _,Ex.val_less bm.2.2 ba.2.2,Ex.val_ofQ,Nz]
   rw[show(0<=sgQ (mil lo-a)↔a<=mil lo)from by
    have:= @Hv (mil lo-a)
    rw[<-Int.not_lt,this,a1j,<-Rat.le_iff_sub_nonneg]]
  generalize sgQ ((p1d lo 1000).less (Ex.ofQ a)).val=S1 at cs hP
  generalize sgQ (p.pt.value (p1d lo 1000)).val=S2 at v2 hP
  generalize sgQ (p.pt.slope (p1d lo 1000)).val=S3 at l2 hP
  generalize sgQ p.pt.c.val=S4 at s4 hP
  repeat' first|refine WY ?_|refine Da ?_|refine Dv 13 ?_|refine V ?_|refine W2 ?_ ?_<;>intro hc
  all_goals first
   |(rw[if_pos (hP.2 (by omega))]
     exact D4 rfl rfl rfl rfl rfl rfl)
   |(rw[if_neg (fun h=>by have:=hP.1 h;omega)]
     exact D4 rfl rfl rfl rfl rfl rfl)
abbrev spE(e:Int):AV:=.tup [A0 [.i 0,.i 0],.i e]
theorem He(p q:Rat):0<Ay p q↔q<p:=by
 have:=Lr p q
 rw[<-a2w,<-this];omega
theorem A4t(p q:Rat):0<=Ay p q↔q<=p:=by
 have:=Dr p q
 rw[<-a1j,<-this];omega
end Go.Proofs.YtcaicpnepfjcmaaGreat
