/- Lemmas of the proof. -/
import Derived.Test.YtcaicpnepfjcmaaGreatQb
set_option linter.all false
set_option maxHeartbeats 64000000
namespace Go.Proofs.YtcaicpnepfjcmaaGreat
open Go Go.RowKit
def a1s:= @Nat.pow_le_pow_right
def a5l:= @Int.lt_trichotomy
def a5s:= @Int.pow_succ
def a7n:= @Rat.divInt_mul_divInt
def a7p:= @Int.mul_le_mul_of_nonneg_left
def a8s:= @Rat.divInt_add_divInt
def b0g:= @Int.gcd_le_right
def b1b:= @Int.mul_neg_of_neg_of_pos
def b1c:= @Int.mul_neg_of_pos_of_neg
def b1d:= @Int.mul_pos_of_neg_of_neg
def b1v:= @Int.pow_zero
def b2g:= @Tryz.func207
def b3h:= @Tryz.func57
theorem Av{n h l:Int}(e1:n/18446744073709551616=h)(e2:n%18446744073709551616=l):wR n=[.val (.int .u64 h),.val (.int .u64 l)]:=by rw[<-e1,<-e2]
theorem Cy(n:Int)(h1: -9223372036854775808<=n)(h2:n<=9223372036854775807):Fz 58 [.i n] (uA n.natAbs):=by
 refine Fo Tryz.func58 ?_
 repeat' first|refine WY ?_|(apply p0j;exact rfl;exact C7 _;exact rfl)|refine Zdi ?_|refine V ?_|refine W2 ?_ ?_<;>intro hc
 all_goals exact Dd rfl rfl (by exact congrArg (Value.int .u64) (by omega))
theorem Aek(a b c d:Int):Fz 82 [A0 [.val (.int .u64 a),.val (.int .u64 c)],A0 [.val (.int .u64 b),.val (.int .u64 d)]] (.b (decide (a<b\/a=b/\c<d))):=by
 refine Fo Tryz.func82 ?_
 repeat' first|refine WX ?_|refine W2 ?_ ?_<;>intro hc
 all_goals exact Dd rfl rfl (congrArg Value.bool (by first|exact decide_eq_decide.2 (by omega)|(symm;first|exact decide_eq_true (by omega)|exact decide_eq_false (by omega))|(first|exact decide_eq_true (by omega)|exact decide_eq_false (by omega))))
theorem Sr(p q:Int)(hp:0<=p)(hq:0<=q):Fz 82 [A0 (wR p),A0 (wR q)] (.b (decide (p<q))):=by
 rw[<-decide_eq_decide.2 (A1v p q hp hq)]
 exact Aek _ _ _ _
theorem A61(p q:Int)(hp:0<=p)(hq:0<=q)(h:p+q<340282366920938463463374607431768211456):Fz 197 [A0 (wR p),A0 (wR q)] (A0 (wR (p+q))):=by
 by_cases hc:(p%18446744073709551616+q%18446744073709551616)%18446744073709551616<p%18446744073709551616
 ·skip
  refine Fo Tryz.func197 ?_
  repeat' first|refine WY ?_|refine Zdi ?_|refine V ?_|refine W2 ?_ ?_<;>intro hc
  all_goals
   rw[show wR (p+q)=[.val (.int .u64 (((p/18446744073709551616+q/18446744073709551616)%18446744073709551616+1)%18446744073709551616)),.val (.int .u64 ((p%18446744073709551616+q%18446744073709551616)%18446744073709551616))]from Av (by omega) (by omega)]
   exact D4 rfl rfl rfl rfl rfl rfl
 ·skip
  refine Fo Tryz.func197 ?_
  repeat' first|refine WY ?_|refine Zdi ?_|refine V ?_|refine W2 ?_ ?_<;>intro hc
  all_goals
   rw[show wR (p+q)=[.val (.int .u64 ((p/18446744073709551616+q/18446744073709551616)%18446744073709551616)),.val (.int .u64 ((p%18446744073709551616+q%18446744073709551616)%18446744073709551616))]from Av (by omega) (by omega)]
   exact D4 rfl rfl rfl rfl rfl rfl
theorem Mi(p q:Int)(hp:0<=p)(hq:0<=q)(hp':p<340282366920938463463374607431768211456)(hq':q<340282366920938463463374607431768211456):Fz 196 [A0 (wR p),A0 (wR q)] (A0 (wR ((p-q)%340282366920938463463374607431768211456))):=by
 by_cases hc:p%18446744073709551616<q%18446744073709551616
 ·skip
  refine Fo Tryz.func196 ?_
  repeat' first|refine WY ?_|refine Zdi ?_|refine V ?_|refine W2 ?_ ?_<;>intro hc
  all_goals
   rw[show wR ((p-q)%340282366920938463463374607431768211456)=[.val (.int .u64 (((p/18446744073709551616-q/18446744073709551616)%18446744073709551616-1)%18446744073709551616)),.val (.int .u64 ((p%18446744073709551616-q%18446744073709551616)%18446744073709551616))]from Av (by omega) (by omega)]
   exact D4 rfl rfl rfl rfl rfl rfl
 ·skip
  refine Fo Tryz.func196 ?_
  repeat' first|refine WY ?_|refine Zdi ?_|refine V ?_|refine W2 ?_ ?_<;>intro hc
  all_goals
   rw[show wR ((p-q)%340282366920938463463374607431768211456)=[.val (.int .u64 ((p/18446744073709551616-q/18446744073709551616)%18446744073709551616)),.val (.int .u64 ((p%18446744073709551616-q%18446744073709551616)%18446744073709551616))]from Av (by omega) (by omega)]
   exact D4 rfl rfl rfl rfl rfl rfl
theorem Sq(p:Int)(hp:0<=p)(hp':p<340282366920938463463374607431768211456):Fz 195 [A0 (wR p)] (A0 (wR (p/2))):=by
 refine Fo Tryz.func195 ?_
 repeat' first|refine WY ?_|(apply p1i (k:=1);exact rfl;exact rfl;decide;exact(rfl:_/(2:Int)=_);exact rfl)|(apply p1s (k:=63);exact rfl;exact rfl;decide;exact(rfl:_*(9223372036854775808:Int)%_=_);exact rfl)|refine Zdi ?_|refine V ?_|refine W2 ?_ ?_<;>intro hc
 all_goals
  rw[show wR (p/2)=[.val (.int .u64 (p/18446744073709551616/2)),.val (.int .u64 ((p%18446744073709551616/2+p/18446744073709551616*9223372036854775808%18446744073709551616)%18446744073709551616))]from Av (by omega) (by omega)]
  exact D4 rfl rfl rfl rfl rfl rfl
theorem Aae(a b:Int):a*b=a/4294967296*(b/4294967296)*18446744073709551616+(a/4294967296*(b%4294967296)+a%4294967296*(b/4294967296))*4294967296+a%4294967296*(b%4294967296):=by
 have ea:a=a/4294967296*4294967296+a%4294967296:=by omega
 have eb:b=b/4294967296*4294967296+b%4294967296:=by omega
 conv=>lhs;rw[ea,eb]
 generalize a/4294967296=ah
 generalize a%4294967296=al
 generalize b/4294967296=bh
 generalize b%4294967296=bl
 generalize 4294967296=k
 grind
theorem Mj(a b:Int)(ha:0<=a)(ha':a<18446744073709551616)(hb:0<=b)(hb':b<18446744073709551616):Fz 81 [uA a,uA b] (A0 (wR (a*b))):=by
 have e:=Aae a b
 have bP:=Jy (a/4294967296) (b/4294967296) (by omega) (by omega) (by omega) (by omega)
 have bQ:=Jy (a/4294967296) (b%4294967296) (by omega) (by omega) (by omega) (by omega)
 have bR:=Jy (a%4294967296) (b/4294967296) (by omega) (by omega) (by omega) (by omega)
 have bL:=Jy (a%4294967296) (b%4294967296) (by omega) (by omega) (by omega) (by omega)
 rw[e]
 clear e
 refine Fo Tryz.func81 ?_
 repeat' first|refine WY ?_|refine Zd0 ?_|(apply p1x;exact rfl;exact rfl;exact A1x _ (by omega) (by omega);exact rfl)|(apply p1i (k:=32);exact rfl;exact rfl;decide;exact(rfl:_/(4294967296:Int)=_);exact rfl)|(apply p1s (k:=32);exact rfl;exact rfl;decide;exact(rfl:_*(4294967296:Int)%_=_);exact rfl)|refine V ?_|refine W2 ?_ ?_<;>intro hc
 generalize a/4294967296*(b/4294967296)=P at*
 generalize a/4294967296*(b%4294967296)=Q at*
 generalize a%4294967296*(b/4294967296)=R at*
 generalize a%4294967296*(b%4294967296)=L at*
 all_goals
  rw[show wR (P*18446744073709551616+(Q+R)*4294967296+L)=[.val (.int .u64 (P+(Q+L/4294967296)/4294967296+(R+(Q+L/4294967296)%4294967296)/4294967296)),.val (.int .u64 ((R+(Q+L/4294967296)%4294967296)*4294967296%18446744073709551616+L%4294967296))]from Av (by omega) (by omega)]
  exact D4 rfl rfl rfl rfl rfl rfl
abbrev dY(p:Int)(i:Nat):Int:=p*2^i
abbrev dX(p:Int)(i:Nat):Int:=dY p i/340282366920938463463374607431768211456
abbrev dA(p:Int)(i:Nat):Int:=dY p i%340282366920938463463374607431768211456
theorem A4v(p:Int)(i:Nat):dY p (i+1)=2*dY p i:=by unfold dY;rw[a5s];grind
theorem Afn{p:Int}(hp:0<=p){i:Nat}(hi:i<=128):0<=dX p i/\dX p i<=p:=by
 have h1:(0:Int)<2^i:=a9b (by decide)
 have h2:(2:Int)^i<=340282366920938463463374607431768211456:=by
  have:(2:Nat)^i<=2^128:=a1s (by decide) hi
  have h3:((2^i:Nat):Int)<=((2^128:Nat):Int):=Int.ofNat_le.2 this
  rw[a8p]at h3
  exact h3
 have h3:0<=p*2^i:=a2c hp (by omega)
 have h4:p*2^i<=p*340282366920938463463374607431768211456:=a7p h2 hp
 unfold dX dY
 omega
abbrev dQ(p b:Int)(i:Nat):Int:=dX p i/b
abbrev dR(p b:Int)(i:Nat):Int:=dX p i%b
abbrev uW(h l:Int):List Lf:=[.val (.int .u64 h),.val (.int .u64 l)]
theorem Ad5{p b:Int}(hp:0<=p)(hb:1<=b)(i:Nat):
  (2*dR p b i+dA p i/170141183460469231731687303715884105728<b->dQ p b (i+1)=2*dQ p b i/\dR p b (i+1)=2*dR p b i+dA p i/170141183460469231731687303715884105728)/\
  (¬2*dR p b i+dA p i/170141183460469231731687303715884105728<b->dQ p b (i+1)=2*dQ p b i+1/\dR p b (i+1)=2*dR p b i+dA p i/170141183460469231731687303715884105728-b):=by
 have hx:dX p (i+1)=2*dX p i+dA p i/170141183460469231731687303715884105728:=by
  unfold dX dA
  rw[A4v]
  omega
 obtain⟨e1,e2,e3⟩:=Fq (dX p i) b (by omega)
 change dX p i=dQ p b i*b+dR p b i at e1
 change 0<=dR p b i at e2
 change dR p b i<b at e3
 have hA:0<=dA p i/170141183460469231731687303715884105728/\dA p i/170141183460469231731687303715884105728<=1:=by unfold dA;omega
 generalize dA p i/170141183460469231731687303715884105728=β at*
 refine⟨fun h=>?_,fun h=>?_⟩
 ·have:=G2 (dX p (i+1)) b (2*dQ p b i) (2*dR p b i+β) (by rw[hx,e1,a3x];omega) (by omega) h
  exact this
 ·have:=G2 (dX p (i+1)) b (2*dQ p b i+1) (2*dR p b i+β-b) (by rw[hx,e1,a4u,a3x];omega) (by omega) (by omega)
  exact this
set_option maxRecDepth 3000 in
theorem Ab4(p b:Int)(hp:0<=p)(hp':p<340282366920938463463374607431768211456)(hb:1<=b)(hb':b<340282366920938463463374607431768211456):Fz 115 [A0 (wR p),A0 (wR b)] (.tup [A0 (wR (p/b)),A0 (wR (p%b))]):=by
 by_cases hz:p/18446744073709551616=0/\b/18446744073709551616=0
 ·obtain⟨z1,z2⟩:=hz
  have e1:p%18446744073709551616=p:=by omega
  have e2:b%18446744073709551616=b:=by omega
  have q0:0<=p/b:=a1y hp (by omega)
  have q1:p/b<=p:=a2q _ hp
  have q2:=a4v p (show b≠0 by omega)
  have q3:=a5d p (show 0<b by omega)
  rw[show wR (p/b)=uW 0 (p/b)from Av (by omega) (by omega),show wR (p%b)=uW 0 (p%b)from Av (by omega) (by omega),show wR p=uW 0 p from Av z1 e1,show wR b=uW 0 b from Av z2 e2]
  refine Fo Tryz.func115 ?_
  repeat' first|refine WY ?_|refine Zdx ?_|refine Zbo ?_|refine Dn 2 13 ?_|refine Dx 2 13 ?_|refine V ?_|refine W2 ?_ ?_<;>intro hc
  all_goals exact⟨.inr rfl,[A0 (uW (0) (p/b)),A0 (uW (0) (p%b))],by rw[Tryz.results115];exact .cons (Res.row (uW (0) (p/b)) rfl rfl rfl rfl rfl) (.cons (Res.row (uW (0) (p%b)) rfl rfl rfl rfl rfl) .nil),.tup (.cons (.agg (C5 (uW (0) (p/b)))) (.cons (.agg (C5 (uW (0) (p%b)))) .nil))⟩
 ·have hz2:p/18446744073709551616=0->¬b/18446744073709551616=0:=fun h k=>hz ⟨h,k⟩
  refine Fo Tryz.func115 ?_
  repeat' first|refine WX ?_|refine W2 ?_ ?_<;>intro hc
  all_goals try(exfalso;omega)
  all_goals skip
  all_goals refine p0c (fun i=>i<=128) (fun i=>128-i) (fun i=>[(8,.i (i:Nat)),(2,.ptr 0 0),(3,.ptr 1 0),(4,.ptr 2 0),(5,.ptr 3 0),(6,.ptr 4 0),(7,.ptr 5 0)]) (fun i=>[.live ((wR (dA p i)).map .lf),.live ((wR b).map .lf),.live ((uW 0 0).map .lf),.live ((uW 0 0).map .lf),.live ((wR (dQ p b i)).map .lf),.live ((wR (dR p b i)).map .lf)]) 0 (by omega) CV (by
   have x0:dX p 0=0:=by unfold dX dY;rw[b1v];omega
   have x1:dA p 0=p:=by unfold dA dY;rw[b1v];omega
   rw[x1]
   unfold dQ dR
   rw[x0,Int.zero_ediv,Int.zero_emod]
   exact .live rfl CH) ?_
  all_goals
   intro i hi
   by_cases hlt:i<128
   ·have h1:(i:Int)<128:=by omega
    obtain⟨s1,s2⟩:=Ad5 hp hb i
    have hA:dA p (i+1)=2*dA p i%340282366920938463463374607431768211456:=by unfold dA;rw[A4v];omega
    have bA:0<=dA p i/\dA p i<340282366920938463463374607431768211456:=by unfold dA;omega
    have bR:=a4v (dX p i) (show b≠0 by omega)
    have bR':=a5d (dX p i) (show 0<b by omega)
    change 0<=dR p b i at bR
    change dR p b i<b at bR'
    have bQ:0<=dQ p b i/\dQ p b i<340282366920938463463374607431768211456:=by
     have k1:=Afn hp hi
     have k2:=a1y k1.1 (show 0<=b by omega)
     have k3:=a2q b k1.1
     exact⟨k2,by unfold dQ;omega⟩
    have bQ2:dQ p b (i+1)<340282366920938463463374607431768211456:=by
     have k1:=Afn hp (show i+1<=128 by omega)
     have k3:=a2q b k1.1
     unfold dQ;omega
    generalize gA:dA p (i+1)=A' at*
    generalize dA p i=A at*
    generalize gQ:dQ p b (i+1)=Q' at*
    generalize dQ p b i=Q at*
    generalize gR:dR p b (i+1)=R' at*
    generalize dR p b i=R at*
    obtain⟨r2,hr2⟩:∃r2,(2*R+A/170141183460469231731687303715884105728)%340282366920938463463374607431768211456=r2:=⟨_,rfl⟩
    obtain⟨Z,hZ⟩:∃Z,2*Q=Z:=⟨_,rfl⟩
    have hQZ:Z<340282366920938463463374607431768211456:=by
     by_cases k:2*R+A/170141183460469231731687303715884105728<b
     ·have:=(s1 k).1;omega
     ·have:=(s2 k).1;omega
    have cl:=Sr r2 b (by omega) (by omega)
    have cm:=Mi r2 b (by omega) (by omega) (by omega) hb'
    obtain⟨bh,gbh⟩:∃v,b/18446744073709551616=v:=⟨_,rfl⟩
    obtain⟨bl,gbl⟩:∃v,b%18446744073709551616=v:=⟨_,rfl⟩
    obtain⟨rh,grh⟩:∃v,R/18446744073709551616=v:=⟨_,rfl⟩
    obtain⟨rl,grl⟩:∃v,R%18446744073709551616=v:=⟨_,rfl⟩
    obtain⟨ah,gah⟩:∃v,A/18446744073709551616=v:=⟨_,rfl⟩
    obtain⟨al,gal⟩:∃v,A%18446744073709551616=v:=⟨_,rfl⟩
    obtain⟨qh,gqh⟩:∃v,Q/18446744073709551616=v:=⟨_,rfl⟩
    obtain⟨ql,gql⟩:∃v,Q%18446744073709551616=v:=⟨_,rfl⟩
    obtain⟨c,f1⟩:∃v,rh/2^63=v:=⟨_,rfl⟩
    obtain⟨x1,f2⟩:∃v,rh*2^1%18446744073709551616=v:=⟨_,rfl⟩
    obtain⟨x2,f3⟩:∃v,rl/2^63=v:=⟨_,rfl⟩
    obtain⟨x3,f4⟩:∃v,(x1+x2)%18446744073709551616=v:=⟨_,rfl⟩
    obtain⟨x4,f5⟩:∃v,rl*2^1%18446744073709551616=v:=⟨_,rfl⟩
    obtain⟨x5,f6⟩:∃v,ah/2^63=v:=⟨_,rfl⟩
    obtain⟨x6,f7⟩:∃v,(x4+x5)%18446744073709551616=v:=⟨_,rfl⟩
    obtain⟨y1,f8⟩:∃v,ah*2^1%18446744073709551616=v:=⟨_,rfl⟩
    obtain⟨y2,f9⟩:∃v,al/2^63=v:=⟨_,rfl⟩
    obtain⟨y3,f10⟩:∃v,(y1+y2)%18446744073709551616=v:=⟨_,rfl⟩
    obtain⟨y4,f11⟩:∃v,al*2^1%18446744073709551616=v:=⟨_,rfl⟩
    obtain⟨z1,f12⟩:∃v,qh*2^1%18446744073709551616=v:=⟨_,rfl⟩
    obtain⟨z2,f13⟩:∃v,ql/2^63=v:=⟨_,rfl⟩
    obtain⟨z3,f14⟩:∃v,(z1+z2)%18446744073709551616=v:=⟨_,rfl⟩
    obtain⟨z4,f15⟩:∃v,ql*2^1%18446744073709551616=v:=⟨_,rfl⟩
    have wr2:wR r2=uW x3 x6:=Av (by omega) (by omega)
    have wA':wR A'=uW y3 y4:=Av (by omega) (by omega)
    have wZ:wR Z=uW z3 z4:=Av (by omega) (by omega)
    have wR0:wR R=uW rh rl:=Av grh grl
    have wA0:wR A=uW ah al:=Av gah gal
    have wQ0:wR Q=uW qh ql:=Av gqh gql
    have wb:wR b=uW bh bl:=Av gbh gbl
    rw[wr2,wb]at cl cm
    rw[wR0,wA0,wQ0,wb]
    have bz:0<=z4+1/\z4+1<18446744073709551616:=by omega
    by_cases k:2*R+A/170141183460469231731687303715884105728<b
    ·obtain⟨t1,t2⟩:=s1 k
     have hov:¬0<c:=by omega
     rw[decide_eq_true (show r2<b by omega)]at cl
     have tR:R'=r2:=t2.trans (by omega)
     have tQ:Q'=Z:=t1.trans hZ
     clear hQZ bQ2 bQ bA bR bR' s1 s2 hp' hb' hr2 t1 t2 k bz gbh gbl grh grl gah gal gqh gql hA cm
     repeat' first|refine WY ?_|(apply p1i (k:=63);exact rfl;exact rfl;decide;(with_reducible assumption);exact rfl)|(apply p1s (k:=1);exact rfl;exact rfl;decide;(with_reducible assumption);exact rfl)|(apply p1b;(iterate 3 exact rfl);(with_reducible assumption);exact rfl)|refine Zd0 ?_|refine V ?_|refine W2 ?_ ?_<;>intro hc
     all_goals exact Next.go (i+1) (by omega) (by omega) (by rw[show(((i+1:Nat):Int))=(i:Int)+1 by omega];exact CV) (by
      rw[gA,gQ,gR,tQ,tR,wA',wZ,wr2]
      exact .live rfl CH)
    ·obtain⟨t1,t2⟩:=s2 k
     have hw:wR (Z+1)=uW z3 (z4+1):=Av (by omega) (by omega)
     have hm:(r2-b)%340282366920938463463374607431768211456=R':=by omega
     rw[hm]at cm
     have tQ:Q'=Z+1:=t1.trans (by omega)
     obtain⟨mh,gmh⟩:∃v,R'/18446744073709551616=v:=⟨_,rfl⟩
     obtain⟨ml,gml⟩:∃v,R'%18446744073709551616=v:=⟨_,rfl⟩
     have wR':wR R'=uW mh ml:=Av gmh gml
     rw[wR']at cm
     by_cases hov:0<c
     ·clear hQZ bQ2 bQ bA bR bR' s1 s2 hp' hb' hr2 t1 t2 k hm gbh gbl grh grl gah gal gqh gql gmh gml hA cl
      repeat' first|refine WY ?_|(apply p1i (k:=63);exact rfl;exact rfl;decide;(with_reducible assumption);exact rfl)|(apply p1s (k:=1);exact rfl;exact rfl;decide;(with_reducible assumption);exact rfl)|(apply p1b;(iterate 3 exact rfl);(with_reducible assumption);exact rfl)|refine Zd0 ?_|refine V ?_|refine W2 ?_ ?_<;>intro hc
      all_goals exact Next.go (i+1) (by omega) (by omega) (by rw[show(((i+1:Nat):Int))=(i:Int)+1 by omega];exact CV) (by
       rw[gA,gQ,gR,tQ,wA',hw,wR']
       exact .live rfl CH)
     ·rw[decide_eq_false (show ¬r2<b by omega)]at cl
      clear hQZ bQ2 bQ bA bR bR' s1 s2 hp' hb' hr2 t1 t2 k hm gbh gbl grh grl gah gal gqh gql gmh gml hA
      repeat' first|refine WY ?_|(apply p1i (k:=63);exact rfl;exact rfl;decide;(with_reducible assumption);exact rfl)|(apply p1s (k:=1);exact rfl;exact rfl;decide;(with_reducible assumption);exact rfl)|(apply p1b;(iterate 3 exact rfl);(with_reducible assumption);exact rfl)|refine Zd0 ?_|refine V ?_|refine W2 ?_ ?_<;>intro hc
      all_goals exact Next.go (i+1) (by omega) (by omega) (by rw[show(((i+1:Nat):Int))=(i:Int)+1 by omega];exact CV) (by
       rw[gA,gQ,gR,tQ,wA',hw,wR']
       exact .live rfl CH)
   ·have h1:¬(i:Int)<128:=by omega
    obtain rfl:i=128:=by omega
    have hX:dX p 128=p:=by unfold dX dY;omega
    unfold dQ dR
    rw[hX]
    repeat' first|refine WY ?_|(refine p0v (id:=14) A8 ?_)|refine Zbc ?_|(apply p0a (i:=0) (j:=1);decide+kernel;exact rfl;exact rfl)|(apply p0a (i:=1) (j:=2);decide+kernel;exact rfl;exact rfl)|(apply Ords.one (i:=0);decide+kernel;exact rfl)|(apply Ords.one (i:=1);decide+kernel;exact rfl)|(apply Ords.one (i:=2);decide+kernel;exact rfl)|(apply Ords.one (i:=3);decide+kernel;exact rfl)|refine V ?_|refine W2 ?_ ?_<;>intro hc
    all_goals exact⟨.inr rfl,[A0 (wR (p/b)),A0 (wR (p%b))],by rw[Tryz.results115];exact .cons (Res.row (wR (p/b)) rfl rfl rfl rfl rfl) (.cons (Res.row (wR (p%b)) rfl rfl rfl rfl rfl) .nil),.tup (.cons (.agg (C5 (wR (p/b)))) (.cons (.agg (C5 (wR (p%b)))) .nil))⟩
set_option maxRecDepth 100000 in
theorem V1:Tryz.prog.fieldsOf 145= #[⟨"H",142,0,false, "", "",0⟩,⟨"L",142,1,false, "", "",8⟩]:=by
 unfold Program.fieldsOf
 rw[a6z]
theorem A6q:Tryz.prog.stoodInHeld 145=false:=by kernel_rfl
theorem A6p:Tryz.prog.eqGuardType Tryz.prog.depth 145=false:=by kernel_rfl
theorem Aio:Tryz.prog.underlying 145=some (.struct (Tryz.prog.fieldsOf 145)):=by
 rw[V1];exact a6z
set_option maxRecDepth 100000 in
instance :HasEqW Tryz.prog 145:=⟨fun o η w x y u a b c d ho hx hy=>by
 have h1:=fun d' (k:IntKind)(a b:Int)=>run_equalIn_int (P:=Tryz.prog) w d' 142 k .u64 a b a8b
 have h2:=run_equalIn_agg (P:=Tryz.prog) w 9999 145 #[.int .u64 a,.int .u64 b] #[.int .u64 c,.int .u64 d] Aio A6q
 have h3:=run_eqGuard_agg (P:=Tryz.prog) w .eql 145 x y #[.int .u64 a,.int .u64 b] #[.int .u64 c,.int .u64 d] A6p
 have h4:=run_eql_struct (P:=Tryz.prog) w 145 #[.int .u64 a,.int .u64 b] #[.int .u64 c,.int .u64 d]
 rw[V1]at h2
 simp only[execOp,ho,hx,hy,a0t,h3,a0o,h4]
 rw[h2]
 simp[Op.eqFields,go_sem,h1]
 by_cases e1:a=c<;>by_cases e2:b=d<;>simp[*]⟩
class HasNeW(P:Program)(t:TypeId):Prop where
 out:∀(o:Oper)(η:Operand->Value)(w:World)(x y:Operand)(u:TypeId)(a b c d:Int),o.op=.binOp .neq t x y u->η x=.agg #[.int .u64 a,.int .u64 b]->η y=.agg #[.int .u64 c,.int .u64 d]->(execOp η o).run P w=.ok (.value (.bool (decide (¬(a=c/\b=d))))) w
section
variable {P:Program}{N:Nat}{ops:Array Oper}{m:Option Nat}{K:Tm->AH->Prop}{tm:Tm}{H:AH}{rest:List Oper}{ty:TypeId}{pos:String}{af:Array Edge}{d:Nat}{t:TypeId}{x y:Operand}
theorem p6h{u:TypeId}{a b c e':Int}[he:HasNeW P t](hx:evT tm x=some (.agg [.val (.int .u64 a),.val (.int .u64 b)]))(hy:evT tm y=some (.agg [.val (.int .u64 c),.val (.int .u64 e')]))(hN:LN d N)(h:Reg m P N ops rest ((d,.val (.bool (decide (¬(a=c/\b=e')))))::tm) H K):Reg m P N ops (⟨some d,.binOp .neq t x y u,ty,pos,af,none⟩::rest) tm H K:=by
 refine S.val (OpV.mk fun L w ρ η hη hH=>?_) hN h
 have h1:=(hη x (by simp[Op.operands]) _ hx).flat (u:=.agg #[.int .u64 a,.int .u64 b]) rfl
 have h2:=(hη y (by simp[Op.operands]) _ hy).flat (u:=.agg #[.int .u64 c,.int .u64 e']) rfl
 exact⟨_,he.out _ η w x y u a b c e' rfl h1 h2,Ab _⟩
end
set_option maxRecDepth 100000 in
instance :HasNeW Tryz.prog 145:=⟨fun o η w x y u a b c d ho hx hy=>by
 have h1:=fun d' (k:IntKind)(a b:Int)=>run_equalIn_int (P:=Tryz.prog) w d' 142 k .u64 a b a8b
 have h2:=run_equalIn_agg (P:=Tryz.prog) w 9999 145 #[.int .u64 a,.int .u64 b] #[.int .u64 c,.int .u64 d] Aio A6q
 have h3:=run_eqGuard_agg (P:=Tryz.prog) w .neq 145 x y #[.int .u64 a,.int .u64 b] #[.int .u64 c,.int .u64 d] A6p
 have h4:=run_neq_struct (P:=Tryz.prog) w 145 #[.int .u64 a,.int .u64 b] #[.int .u64 c,.int .u64 d]
 rw[V1]at h2
 simp only[execOp,ho,hx,hy,a0t,h3,a0o,h4]
 rw[h2]
 simp[Op.eqFields,go_sem,h1]
 by_cases e1:a=c<;>by_cases e2:b=d<;>simp[*]⟩
theorem P4(x:Int)(h0:0<=x)(h1:x<18446744073709551616):bits .and .u64 x 1=x%2:=
 bits_mask .u64 64 (by decide) Rv 1 (by decide) x h0 (by simpa using h1)
theorem A57(a b:Int)(ha:a%2=0)(hb:b%2=1):Int.gcd (a/2) b=Int.gcd a b:=by
 have e:a=2*(a/2):=by omega
 have hc:Nat.Coprime 2 b.natAbs:=by show Nat.gcd 2 b.natAbs=1;rw[Nat.gcd_rec,show b.natAbs%2=1 by omega];exact Nat.gcd_one_left _
 rw[Int.gcd,Int.gcd,show a.natAbs=2*(a/2).natAbs by omega,Nat.Coprime.gcd_mul_left_cancel _ hc]
theorem Add(a b:Int)(ha:a%2=1)(hb:b%2=0):Int.gcd a (b/2)=Int.gcd a b:=by
 rw[a7k,A57 b a hb ha,a7k]
theorem A9w(a b:Int):Int.gcd (a-b) b=Int.gcd a b:=by simp
theorem Ade(a b:Int)(ha:a%2=0)(hb:b%2=0):Int.gcd a b=2*Int.gcd (a/2) (b/2):=by
 rw[Int.gcd,Int.gcd,show a.natAbs=2*(a/2).natAbs by omega,show b.natAbs=2*(b/2).natAbs by omega,Nat.gcd_mul_left]
theorem Ag4{x y:Int}{t:Nat}{G:Int}(hx:x%2=0)(hy:y%2=0)(h:(Int.gcd x y:Int)*2^t=G):(Int.gcd (x/2) (y/2):Int)*2^(t+1)=G:=by
 rw[Ade x y hx hy]at h
 rw[<-h,a5s]
 push_cast
 grind
theorem Aiw{g t:Nat}{G:Int}(h:(g:Int)*2^t=G)(hg:1<=g)(hG:G<340282366920938463463374607431768211456):t<128:=by
 rcases a0y t 128 with h1|h1
 ·exact h1
 ·exfalso
  have h2:(2:Nat)^128<=2^t:=a1s (by decide) h1
  have h3:((2^128:Nat):Int)<=((2^t:Nat):Int):=Int.ofNat_le.2 h2
  rw[a8p]at h3
  have h4:(2:Int)^t<=(g:Int)*2^t:=by
   have:(1:Int)*2^t<=(g:Int)*2^t:=a3q (by omega) (Int.le_of_lt (a9b (by decide)))
   simpa using this
  simp at h3
  rw[h]at h4
  have:((2:Int)^t)=(((2:Nat):Int)^t):=rfl
  omega
set_option maxRecDepth 3000 in
theorem Ab5(p q:Int)(hp:0<=p)(hp':p<340282366920938463463374607431768211456)(hq:1<=q)(hq':q<340282366920938463463374607431768211456):Fz 114 [A0 (wR p),A0 (wR q)] (A0 (wR (Int.gcd p q))):=by
 obtain⟨ph,gph⟩:∃v,p/18446744073709551616=v:=⟨_,rfl⟩
 obtain⟨pl,gpl⟩:∃v,p%18446744073709551616=v:=⟨_,rfl⟩
 obtain⟨qh,gqh⟩:∃v,q/18446744073709551616=v:=⟨_,rfl⟩
 obtain⟨ql,gql⟩:∃v,q%18446744073709551616=v:=⟨_,rfl⟩
 have wp:wR p=uW ph pl:=Av gph gpl
 have wq:wR q=uW qh ql:=Av gqh gql
 by_cases hz:ph=0/\pl=0
 ·have e0:p=0:=by omega
  have e1:((Int.gcd p q:Nat):Int)=q:=by rw[e0];simp;omega
  rw[e1,wp,wq]
  refine Fo Tryz.func114 ?_
  repeat' first|refine WY ?_|refine Zds ?_|refine V ?_|refine W2 ?_ ?_<;>intro hc
  all_goals exact D4 rfl rfl rfl rfl rfl rfl
 ·rw[wp,wq]
  refine Fo Tryz.func114 ?_
  repeat' first|refine WY ?_|refine Zds ?_|refine V ?_|refine W2 ?_ ?_<;>intro hc
  have hp1:1<=p:=by omega
  have hgq:((Int.gcd p q:Nat):Int)<=q:=b0g _ (by omega)
  obtain⟨G,hG⟩:∃G:Int,((Int.gcd p q:Nat):Int)=G:=⟨_,rfl⟩
  have hGb:G<340282366920938463463374607431768211456:=by omega
  refine p0c (fun s:Nat×Int×Int=>s.1<128/\(1<=s.2.1/\s.2.1<340282366920938463463374607431768211456)/\(1<=s.2.2/\s.2.2<340282366920938463463374607431768211456)/\((Int.gcd s.2.1 s.2.2:Nat):Int)*2^s.1=G) (fun s=>s.2.1.toNat) (fun s=>[(5,.i (s.1:Nat)),(2,.ptr 0 0),(3,.ptr 1 0),(4,.ptr 2 0)]) (fun s=>[.live ((wR s.2.1).map .lf),.live ((wR s.2.2).map .lf),.live ((uW 0 0).map .lf)]) (0,p,q) ⟨show 0<128 by omega,⟨hp1,hp'⟩,⟨hq,hq'⟩,by rw[<-hG];simp⟩ CW (by dsimp only;rw[wp,wq];exact .live rfl CG) ?_
  rintro⟨t,x,y⟩ ⟨ht,⟨hx,hx'⟩,⟨hy,hy'⟩,hg⟩
  dsimp only at ht hx hx' hy hy' hg⊢
  have ch1:=Sq x (by omega) hx'
  have ch2:=Sq y (by omega) hy'
  obtain⟨xh,gxh⟩:∃v,x/18446744073709551616=v:=⟨_,rfl⟩
  obtain⟨xl,gxl⟩:∃v,x%18446744073709551616=v:=⟨_,rfl⟩
  obtain⟨yh,gyh⟩:∃v,y/18446744073709551616=v:=⟨_,rfl⟩
  obtain⟨yl,gyl⟩:∃v,y%18446744073709551616=v:=⟨_,rfl⟩
  have wx:wR x=uW xh xl:=Av gxh gxl
  have wy:wR y=uW yh yl:=Av gyh gyl
  obtain⟨mx,hmx⟩:∃v,bits .and .u64 xl 1=v:=⟨_,rfl⟩
  obtain⟨my,hmy⟩:∃v,bits .and .u64 yl 1=v:=⟨_,rfl⟩
  have emx:mx=x%2:=by rw[<-hmx,P4 _ (by omega) (by omega)];omega
  have emy:my=y%2:=by rw[<-hmy,P4 _ (by omega) (by omega)];omega
  rw[wx]at ch1⊢
  rw[wy]at ch2⊢
  by_cases hee:x%2=0/\y%2=0
  ·have z1:mx=0:=by omega
   have z2:my=0:=by omega
   obtain⟨x2h,gx2h⟩:∃v,x/2/18446744073709551616=v:=⟨_,rfl⟩
   obtain⟨x2l,gx2l⟩:∃v,x/2%18446744073709551616=v:=⟨_,rfl⟩
   obtain⟨y2h,gy2h⟩:∃v,y/2/18446744073709551616=v:=⟨_,rfl⟩
   obtain⟨y2l,gy2l⟩:∃v,y/2%18446744073709551616=v:=⟨_,rfl⟩
   have wx2:wR (x/2)=uW x2h x2l:=Av gx2h gx2l
   have wy2:wR (y/2)=uW y2h y2l:=Av gy2h gy2l
   have hg2:=Ag4 hee.1 hee.2 hg
   have ht2:t+1<128:=Aiw hg2 (Int.gcd_pos_of_ne_zero_left _ (by omega)) hGb
   rw[wx2]at ch1
   rw[wy2]at ch2
   have b1:1<=x/2/\x/2<340282366920938463463374607431768211456:=by omega
   have b2:1<=y/2/\y/2<340282366920938463463374607431768211456:=by omega
   have b3:(x/2).toNat<x.toNat:=by omega
   clear gxh gxl gyh gyl gx2h gx2l gy2h gy2l emx emy hee hx hx' hy hy' hp hp' hq hq' hGb hgq
   repeat' first|refine WY ?_|(apply p1x;exact rfl;exact rfl;(with_reducible assumption);exact rfl)|(refine p3h (id:=5) A8 ?_)|refine Zbc ?_|(refine p0v (id:=5) A8 ?_)|refine Zbc ?_|refine Zd1 ?_|(apply p3j 5;exact rfl;decide+kernel;decide+kernel;decide+kernel;(iterate 4 exact rfl);omega)|refine Zbu ?_|(apply p0a (i:=0) (j:=2);decide+kernel;exact rfl;exact rfl)|(apply p0a (i:=1) (j:=2);decide+kernel;exact rfl;exact rfl)|(apply p0a (i:=2) (j:=6);decide+kernel;exact rfl;exact rfl)|(apply p0a (i:=3) (j:=6);decide+kernel;exact rfl;exact rfl)|(apply p0a (i:=6) (j:=7);decide+kernel;exact rfl;exact rfl)|(apply Ords.one (i:=0);decide+kernel;exact rfl)|(apply Ords.one (i:=1);decide+kernel;exact rfl)|(apply Ords.one (i:=2);decide+kernel;exact rfl)|(apply Ords.one (i:=3);decide+kernel;exact rfl)|(apply Ords.one (i:=4);decide+kernel;exact rfl)|(apply Ords.one (i:=5);decide+kernel;exact rfl)|(apply Ords.one (i:=6);decide+kernel;exact rfl)|(apply Ords.one (i:=7);decide+kernel;exact rfl)|(apply Ords.one (i:=8);decide+kernel;exact rfl)|refine V ?_|refine W2 ?_ ?_<;>intro hc

   all_goals exact Next.go (t+1,x/2,y/2) ⟨ht2,b1,b2,hg2⟩ b3 (by dsimp only;rw[show(((t+1:Nat):Int))=(t:Int)+1 by omega];exact CW) (by dsimp only;rw[wx2,wy2];exact .live rfl CG)
  ·have hodd:x%2=1\/y%2=1:=by omega
   obtain⟨g,hgE⟩:∃g:Int,((Int.gcd x y:Nat):Int)=g:=⟨_,rfl⟩
   have hgG:g*2^t=G:=by rw[<-hgE];exact hg
   have hx0:0<=x:=by omega
   have hmm:¬mx=0\/(mx=0/\¬my=0):=by omega
   clear gxh gxl gyh gyl emx emy hee ch1 ch2
   rcases hmm with z1|⟨z1,z2⟩
   all_goals repeat' first|refine WY ?_|(apply p1x;exact rfl;exact rfl;(with_reducible assumption);exact rfl)|refine V ?_|refine W2 ?_ ?_<;>intro hc
   all_goals refine p0c (fun s:Int×Int=>(0<=s.1/\s.1<340282366920938463463374607431768211456)/\(1<=s.2/\s.2<340282366920938463463374607431768211456)/\((Int.gcd s.1 s.2:Nat):Int)=g/\(s.1%2=1\/s.2%2=1)) (fun s=>(s.1+s.2).toNat) (fun s=>[(5,.i (t:Nat)),(2,.ptr 0 0),(3,.ptr 1 0),(4,.ptr 2 0)]) (fun s=>[.live ((wR s.1).map .lf),.live ((wR s.2).map .lf),.live ((uW 0 0).map .lf)]) (x,y) ⟨⟨hx0,hx'⟩,⟨hy,hy'⟩,hgE,hodd⟩ CW (by dsimp only;rw[wx,wy];exact .live rfl CG) ?_
   all_goals
    clear z1 wx wy hmx hmy hx hx' hy hy' hg hgE hodd hx0
    rintro⟨a,b⟩ ⟨⟨ha,ha'⟩,⟨hb,hb'⟩,hab,hodd⟩
    dsimp only at ha ha' hb hb' hab hodd⊢
    obtain⟨ah,gah⟩:∃v,a/18446744073709551616=v:=⟨_,rfl⟩
    obtain⟨al,gal⟩:∃v,a%18446744073709551616=v:=⟨_,rfl⟩
    obtain⟨bh,gbh⟩:∃v,b/18446744073709551616=v:=⟨_,rfl⟩
    obtain⟨bl,gbl⟩:∃v,b%18446744073709551616=v:=⟨_,rfl⟩
    have wa:wR a=uW ah al:=Av gah gal
    have wb:wR b=uW bh bl:=Av gbh gbl
    rw[wa,wb]
    by_cases hz2:ah=0/\al=0
    ·have e0:a=0:=by omega
     have hbg:b=g:=by rw[<-hab,e0];simp;omega
     have hbG:b*2^t=G:=by rw[hbg];exact hgG
     have hnn:¬¬(ah=0/\al=0):=fun k=>k hz2
     clear gah gal gbh gbl e0
     repeat' first|refine WY ?_|(apply p6h;(iterate 3 exact rfl))|refine V ?_|refine W2 ?_ ?_<;>intro hc
     refine p0c (fun s:Nat×Int=>s.1<128/\1<=s.2/\s.2*2^s.1=G) (fun s=>s.1) (fun s=>[(5,.i (s.1:Nat)),(3,.ptr 1 0),(4,.ptr 2 0)]) (fun s=>[.live ((uW ah al).map .lf),.live ((wR s.2).map .lf),.live ((uW 0 0).map .lf)]) (t,b) ⟨ht,hb,hbG⟩ CW (by dsimp only;rw[wb];exact .live rfl CG) ?_
     rintro⟨k,z⟩ ⟨hk,hz1,hzk⟩
     dsimp only at hk hz1 hzk⊢
     obtain⟨zh,gzh⟩:∃v,z/18446744073709551616=v:=⟨_,rfl⟩
     obtain⟨zl,gzl⟩:∃v,z%18446744073709551616=v:=⟨_,rfl⟩
     have wz:wR z=uW zh zl:=Av gzh gzl
     rw[wz]
     by_cases k0:0<k
     ·obtain⟨j,rfl⟩:∃j,k=j+1:=⟨k-1,by omega⟩
      have hp2:(1:Int)<=2^j:=a9b (by decide)
      have hzj:(z+z)*2^j=G:=by rw[<-hzk,a5s];grind
      have h7:(z+z)*1<=(z+z)*2^j:=a7p hp2 (by omega)
      have cp:=A61 z z (by omega) (by omega) (by omega)
      obtain⟨yh2,gyh2⟩:∃v,(z+z)/18446744073709551616=v:=⟨_,rfl⟩
      obtain⟨yl2,gyl2⟩:∃v,(z+z)%18446744073709551616=v:=⟨_,rfl⟩
      have wy2:wR (z+z)=uW yh2 yl2:=Av gyh2 gyl2
      rw[wz,wy2]at cp
      have h1:(0:Int)<((j+1:Nat):Int):=by omega
      have b1:1<=z+z:=by omega
      have hj:j<128:=by omega
      clear gzh gzl gyh2 gyl2 h7 hp2 hzk
      repeat' first|refine WX ?_|refine W2 ?_ ?_<;>intro hc
      all_goals exact Next.go (j,z+z) ⟨hj,b1,hzj⟩ (Nat.lt_succ_self j) (by dsimp only;rw[show((j:Nat):Int)=((j+1:Nat):Int)-1 by omega];exact CW) (by dsimp only;rw[wy2];exact .live rfl CG)
     ·obtain rfl:k=0:=by omega
      have h1:¬(0:Int)<((0:Nat):Int):=by omega
      have hzG:z=G:=by rw[<-hzk];simp
      rw[show wR ((Int.gcd p q:Nat):Int)=uW zh zl by rw[hG,<-hzG,wz]]
      repeat' first|refine WX ?_|refine W2 ?_ ?_<;>intro hc
      all_goals exact D4 rfl rfl rfl rfl rfl rfl
    ·have ha1:1<=a:=by omega
     clear gah gal gbh gbl
     repeat' first|refine WY ?_|(apply p6h;(iterate 3 exact rfl))|refine V ?_|refine W2 ?_ ?_<;>intro hc
     refine p0c (fun c:Int=>(1<=c/\c<=a)/\((Int.gcd c b:Nat):Int)=g/\(c%2=1\/b%2=1)) (fun c=>c.toNat) (fun _=>[(5,.i (t:Nat)),(2,.ptr 0 0),(3,.ptr 1 0),(4,.ptr 2 0)]) (fun c=>[.live ((wR c).map .lf),.live ((uW bh bl).map .lf),.live ((uW 0 0).map .lf)]) a ⟨⟨ha1,Int.le_refl _⟩,hab,hodd⟩ CW (by(try dsimp only);rw[wa];exact .live rfl CG) ?_
     rintro c ⟨⟨hc1,hca⟩,hcb,hco⟩
     try dsimp only
     have ch:=Sq c (by omega) (by omega)
     obtain⟨c1,gc1⟩:∃v,c/18446744073709551616=v:=⟨_,rfl⟩
     obtain⟨c2,gc2⟩:∃v,c%18446744073709551616=v:=⟨_,rfl⟩
     have wc:wR c=uW c1 c2:=Av gc1 gc2
     obtain⟨mc,hmc⟩:∃v,bits .and .u64 c2 1=v:=⟨_,rfl⟩
     have emc:mc=c%2:=by rw[<-hmc,P4 _ (by omega) (by omega)];omega
     rw[wc]at ch⊢
     by_cases ce:c%2=0
     ·have z1:mc=0:=by omega
      have hgc:=A57 c b ce (by omega)
      have hn1:1<=c/2/\c/2<=a:=by omega
      have hn2:(c/2).toNat<c.toNat:=by omega
      have hn3:c/2%2=1\/b%2=1:=by omega
      obtain⟨d1,gd1⟩:∃v,c/2/18446744073709551616=v:=⟨_,rfl⟩
      obtain⟨d2,gd2⟩:∃v,c/2%18446744073709551616=v:=⟨_,rfl⟩
      have wd:wR (c/2)=uW d1 d2:=Av gd1 gd2
      rw[wd]at ch
      clear gc1 gc2 gd1 gd2 emc
      repeat' first|refine WY ?_|(apply p1x;exact rfl;exact rfl;(with_reducible assumption);exact rfl)|refine V ?_|refine W2 ?_ ?_<;>intro hc
      all_goals exact Next.go (c/2) ⟨hn1,by rw[hgc];exact hcb,hn3⟩ hn2 CW (by(try dsimp only);rw[wd];exact .live rfl CG)
     ·have z1:¬mc=0:=by omega
      have hc2:c%2=1:=by omega
      clear gc1 gc2 emc
      repeat' first|refine WY ?_|(apply p1x;exact rfl;exact rfl;(with_reducible assumption);exact rfl)|refine V ?_|refine W2 ?_ ?_<;>intro hc
      clear hmc z1 ch
      refine p0c (fun d:Int=>(1<=d/\d<=b)/\((Int.gcd c d:Nat):Int)=g) (fun d=>d.toNat) (fun _=>[(5,.i (t:Nat)),(2,.ptr 0 0),(3,.ptr 1 0),(4,.ptr 2 0)]) (fun d=>[.live ((uW c1 c2).map .lf),.live ((wR d).map .lf),.live ((uW 0 0).map .lf)]) b ⟨⟨hb,Int.le_refl _⟩,hcb⟩ CW (by(try dsimp only);rw[wb];exact .live rfl CG) ?_
      rintro d ⟨⟨hd1,hdb⟩,hcd⟩
      try dsimp only
      have ch:=Sq d (by omega) (by omega)
      have cl:=Sr c d (by omega) (by omega)
      have cm1:=Mi d c (by omega) (by omega) (by omega) (by omega)
      have cm2:=Mi c d (by omega) (by omega) (by omega) (by omega)
      obtain⟨d1,gd1⟩:∃v,d/18446744073709551616=v:=⟨_,rfl⟩
      obtain⟨d2,gd2⟩:∃v,d%18446744073709551616=v:=⟨_,rfl⟩
      have wd:wR d=uW d1 d2:=Av gd1 gd2
      obtain⟨md,hmd⟩:∃v,bits .and .u64 d2 1=v:=⟨_,rfl⟩
      have emd:md=d%2:=by rw[<-hmd,P4 _ (by omega) (by omega)];omega
      rw[wd]at ch cl cm1 cm2⊢
      rw[wc]at cl cm1 cm2
      by_cases de:d%2=0
      ·have z1:md=0:=by omega
       have hgd:=Add c d hc2 de
       have hn1:1<=d/2/\d/2<=b:=by omega
       have hn2:(d/2).toNat<d.toNat:=by omega
       obtain⟨e1,ge1⟩:∃v,d/2/18446744073709551616=v:=⟨_,rfl⟩
       obtain⟨e2,ge2⟩:∃v,d/2%18446744073709551616=v:=⟨_,rfl⟩
       have we:wR (d/2)=uW e1 e2:=Av ge1 ge2
       rw[we]at ch
       clear gd1 gd2 ge1 ge2 emd cl cm1 cm2
       repeat' first|refine WY ?_|(apply p1x;exact rfl;exact rfl;(with_reducible assumption);exact rfl)|refine V ?_|refine W2 ?_ ?_<;>intro hc
       all_goals exact Next.go (d/2) ⟨hn1,by rw[hgd];exact hcd⟩ hn2 CW (by(try dsimp only);rw[we];exact .live rfl CG)
      ·have z1:¬md=0:=by omega
       have hd2:d%2=1:=by omega
       by_cases lt:c<d
       ·rw[decide_eq_true lt]at cl
        rw[show(d-c)%340282366920938463463374607431768211456=d-c by omega]at cm1
        obtain⟨e1,ge1⟩:∃v,(d-c)/18446744073709551616=v:=⟨_,rfl⟩
        obtain⟨e2,ge2⟩:∃v,(d-c)%18446744073709551616=v:=⟨_,rfl⟩
        have we:wR (d-c)=uW e1 e2:=Av ge1 ge2
        rw[we]at cm1
        have hg3:((Int.gcd (d-c) c:Nat):Int)=g:=by rw[A9w,a7k];exact hcd
        have hn1:(0<=d-c/\d-c<340282366920938463463374607431768211456)/\(1<=c/\c<340282366920938463463374607431768211456):=by omega
        have hn2:(d-c+c).toNat<(a+b).toNat:=by omega
        clear gd1 gd2 ge1 ge2 emd cm2 ch
        repeat' first|refine WY ?_|(apply p1x;exact rfl;exact rfl;(with_reducible assumption);exact rfl)|refine V ?_|refine W2 ?_ ?_<;>intro hc
        all_goals exact Next.go (d-c,c) ⟨hn1.1,hn1.2,hg3,.inr hc2⟩ hn2 CW (by(try dsimp only);rw[we,wc];exact .live rfl CG)
       ·rw[decide_eq_false lt]at cl
        rw[show(c-d)%340282366920938463463374607431768211456=c-d by omega]at cm2
        obtain⟨e1,ge1⟩:∃v,(c-d)/18446744073709551616=v:=⟨_,rfl⟩
        obtain⟨e2,ge2⟩:∃v,(c-d)%18446744073709551616=v:=⟨_,rfl⟩
        have we:wR (c-d)=uW e1 e2:=Av ge1 ge2
        rw[we]at cm2
        have hg3:((Int.gcd (c-d) d:Nat):Int)=g:=by rw[A9w];exact hcd
        have hn1:(0<=c-d/\c-d<340282366920938463463374607431768211456)/\(1<=d/\d<340282366920938463463374607431768211456):=by omega
        have hn2:(c-d+d).toNat<(a+b).toNat:=by omega
        clear gd1 gd2 ge1 ge2 emd cm1 ch
        repeat' first|refine WY ?_|(apply p1x;exact rfl;exact rfl;(with_reducible assumption);exact rfl)|refine V ?_|refine W2 ?_ ?_<;>intro hc
        all_goals exact Next.go (c-d,d) ⟨hn1.1,hn1.2,hg3,.inr hd2⟩ hn2 CW (by(try dsimp only);rw[we,wd];exact .live rfl CG)
theorem Agu(neg:Bool)(N D g n d:Int)(hN:0<=N)(hN':N<340282366920938463463374607431768211456)(hD:1<=D)(hD':D<340282366920938463463374607431768211456)(hg:((Int.gcd N D:Nat):Int)=g)(hn:N/g=n)(hd:D/g=d):Fz 57 [A0 (wR N),.b neg,A0 (wR D)] (sgO neg n d):=by
 have g1:1<=g:=by have:=a7t N (show D≠0 by omega);omega
 have g2:g<=D:=by rw[<-hg];exact b0g _ (by omega)
 have cg:=Ab5 N D hN hN' hD hD'
 rw[hg]at cg
 have c1:=Ab4 N g hN hN' g1 (by omega)
 have c2:=Ab4 D g (by omega) hD' g1 (by omega)
 rw[hn]at c1
 rw[hd]at c2
 have n0:0<=n:=hn▸a1y hN (by omega)
 have n1:n<=N:=hn▸a2q g hN
 have d0:0<=d:=hd▸a1y (by omega) (by omega)
 have d1:d<=D:=hd▸a2q g (by omega)
 generalize N%g=e1 at*
 generalize D%g=e2 at*
 obtain⟨dh,gdh⟩:∃v,D/18446744073709551616=v:=⟨_,rfl⟩
 obtain⟨dl,gdl⟩:∃v,D%18446744073709551616=v:=⟨_,rfl⟩
 have wD:wR D=uW dh dl:=Av gdh gdl
 have hnz:¬(dh=0/\dl=0):=by omega
 rw[wD]at cg c2⊢
 clear gdh gdl wD hn hd hg
 obtain⟨nh,gnh⟩:∃v,n/18446744073709551616=v:=⟨_,rfl⟩
 obtain⟨nl,gnl⟩:∃v,n%18446744073709551616=v:=⟨_,rfl⟩
 obtain⟨eh,geh⟩:∃v,d/18446744073709551616=v:=⟨_,rfl⟩
 obtain⟨el,gel⟩:∃v,d%18446744073709551616=v:=⟨_,rfl⟩
 rw[show wR n=uW nh nl from Av gnh gnl]at c1
 rw[show wR d=uW eh el from Av geh gel]at c2
 unfold sgO
 by_cases h:n<=1152921504606846976/\d<=1152921504606846976
 ·rw[if_pos h]
  have k1:¬nh>0:=by omega
  have k2:¬nl>1152921504606846976:=by omega
  have k3:¬eh>0:=by omega
  have k4:¬el>1152921504606846976:=by omega
  obtain rfl:nl=n:=by omega
  obtain rfl:el=d:=by omega
  clear gnh gnl geh gel g1 g2 n1 d1 hN hN' hD hD'
  cases neg with
  |true=>
   show Fn0 _ _ _ (.tup [A0 [.i (-nl),.i el],.i 0])
   rw[show-nl=0-nl by omega]
   refine Fo b3h ?_
   repeat' first|refine WY ?_|refine Zds ?_|refine Zdv ?_|refine Zd2 ?_|refine V ?_|refine W2 ?_ ?_<;>intro hc
   all_goals exact D3 rfl rfl rfl rfl rfl rfl rfl
  |false=>
   refine Fo b3h ?_
   repeat' first|refine WY ?_|refine Zds ?_|refine Zdv ?_|refine Zd2 ?_|refine V ?_|refine W2 ?_ ?_<;>intro hc
   all_goals exact D3 rfl rfl rfl rfl rfl rfl rfl
 ·rw[if_neg h]
  refine Fo b3h ?_
  repeat' first|refine WY ?_|refine Zds ?_|refine Zdv ?_|refine Zd2 ?_|refine V ?_|refine W2 ?_ ?_<;>intro hc
  all_goals first
   |(exfalso;apply h;constructor<;>omega)
   |(exact D3 rfl rfl rfl rfl rfl rfl rfl)
theorem Af7(neg:Bool)(n d:Int)(hd:d≠0)(hneg:n≠0->neg=Du n d):sgO neg ((n.natAbs:Int)/(Int.gcd n d:Int)) ((d.natAbs:Int)/(Int.gcd n d:Int))=Bg (A4 n d):=by
 obtain⟨m1,m2⟩:=Xo n d hd
 rw[W8 (a1y (by omega) (by omega)) m1 m2]
 by_cases hz:n=0
 ·subst hz;simp[sgO]
 ·rw[hneg hz,decide_eq_true hz,a7s]
theorem Un(neg:Bool)(n d N D:Int)(hN:(n.natAbs:Int)=N)(hD:(d.natAbs:Int)=D)(hd:d≠0)(hneg:n≠0->neg=Du n d)(hN':N<340282366920938463463374607431768211456)(hD':D<340282366920938463463374607431768211456):Fz 57 [A0 (wR N),.b neg,A0 (wR D)] (Bg (A4 n d)):=by
 subst hN hD
 rw[<-Af7 neg n d hd hneg]
 exact Agu neg _ _ _ _ _ (by omega) hN' (by omega) hD' (by simp[Int.gcd]) rfl rfl
theorem Agv(n d:Int)(hd:d≠0)(n1: -9223372036854775808<=n)(n2:n<=9223372036854775807)(d1: -9223372036854775808<=d)(d2:d<=9223372036854775807):Fz 30 [.i n,.i d] (Bg (A4 n d)):=by
 have cs1:=Cy n n1 n2
 have cs2:=Cy d d1 d2
 have cm:=Un (Du n d) n d _ _ rfl rfl hd (fun _=>rfl) (by omega) (by omega)
 obtain⟨u,v,e,hu⟩:=Lw (A4 n d)
 rw[hu]at cm⊢
 rw[show wR (n.natAbs:Int)=uW 0 n.natAbs from Av (by omega) (by omega),show wR (d.natAbs:Int)=uW 0 d.natAbs from Av (by omega) (by omega)]at cm
 have hbq:(decide (n<0) !=decide (d<0))=Du n d:=rfl
 generalize Du n d=nb at*
 refine Fo Tryz.func30 ?_
 repeat' first|refine WY ?_|refine Zbf hbq ?_|refine Zbg hbq ?_|refine V ?_|refine W2 ?_ ?_<;>intro hc
 all_goals exact D3 rfl rfl rfl rfl rfl rfl rfl
theorem Co(n:Int):Fz 65 [.i n] (A0 [.i n,.i 1]):=by
 refine Fo Tryz.func65 ?_
 repeat' first|refine WX ?_|refine W2 ?_ ?_<;>intro hc
 all_goals exact D4 rfl rfl rfl rfl rfl rfl
theorem K4(q:Rat)(h:Fits q):Fz 127 [A0 (frR q)] (A0 (frR (-q))):=by
 have:=h.1
 refine Fo Tryz.func127 ?_
 repeat' first|refine WY ?_|refine Zd2 ?_|refine V ?_|refine W2 ?_ ?_<;>intro hc
 all_goals exact D4 rfl rfl rfl rfl rfl rfl
theorem Ael(n d:Int):Fz 121 [A0 [.i n,.i d]] (.b (Dq n d)):=by
 by_cases h:1<=d/\d<=1152921504606846976/\ -1152921504606846976<=n/\n<=1152921504606846976
 ·obtain⟨h1,h2,h3,h4⟩:=h
  have c1:=Cy n (by omega) (by omega)
  have c3:=Cy d (by omega) (by omega)
  have c2:=Ab5 n.natAbs d.natAbs (by omega) (by omega) (by omega) (by omega)
  rw[show Int.gcd (n.natAbs:Int) (d.natAbs:Int)=Int.gcd n d by simp[Int.gcd]]at c2
  have hv:Dq n d=decide ((Int.gcd n d:Nat)=(1:Int)):=by
   rw[a5z,validB_spec,decide_eq_true_iff]
   omega
  have hgd:((Int.gcd n d:Nat):Int)<=d:=b0g _ (by omega)
  rw[hv]
  generalize Int.gcd n d=g at*
  rw[show wR (g:Int)=uW 0 g from Av (by omega) (by omega),show wR (n.natAbs:Int)=uW 0 n.natAbs from Av (by omega) (by omega),show wR (d.natAbs:Int)=uW 0 d.natAbs from Av (by omega) (by omega)]at c2
  have k1:¬d<1:=by omega
  have k2:¬d>1152921504606846976:=by omega
  have k3:¬n< -1152921504606846976:=by omega
  have k4:¬n>1152921504606846976:=by omega
  clear hv hgd
  refine Fo Tryz.func121 ?_
  repeat' first|refine WY ?_|refine Zds ?_|refine Dw 10 ?_|refine V ?_|refine W2 ?_ ?_<;>intro hc
  all_goals exact Dd rfl rfl (congrArg Value.bool (decide_eq_decide.2 (by omega)))
 ·rw[X1 fun k=>h ⟨k.1,k.2.1,k.2.2.1,k.2.2.2.1⟩]
  refine Fo Tryz.func121 ?_
  repeat' first|refine WY ?_|refine Dw 10 ?_|refine V ?_|refine W2 ?_ ?_<;>intro hc
  all_goals first
   |exact Dd rfl rfl (congrArg Value.bool (by first|rfl|exact decide_eq_false (by omega)))
   |(exfalso;exact h ⟨by omega,by omega,by omega,by omega⟩)
theorem A44(a b:Int):((a*b).natAbs:Int)=(a.natAbs:Int)*(b.natAbs:Int):=by rw[a8z,a3y]
theorem Ah4(a b c d:Int)(hc:0<c)(hd:0<d)(hn:a*b≠0):(decide (a<0) !=decide (b<0))=Du (a*b) (c*d):=by
 have hcd:¬c*d<0:=by have:=a3s hc hd;omega
 rw[Du,decide_eq_false hcd,Bool.bne_false]
 rcases a5l a 0 with h1|h1|h1<;>rcases a5l b 0 with h2|h2|h2
 all_goals first
  |(exfalso;apply hn;simp[h1,h2];done)
  |(have:=b1d h1 h2;rw[decide_eq_true h1,decide_eq_true h2,decide_eq_false (by omega)];rfl)
  |(have:=b1b h1 h2;rw[decide_eq_true h1,decide_eq_false (by omega),decide_eq_true this];rfl)
  |(have:=b1c h1 h2;rw[decide_eq_false (by omega),decide_eq_true h2,decide_eq_true this];rfl)
  |(have:=a3s h1 h2;rw[decide_eq_false (by omega),decide_eq_false (by omega),decide_eq_false (by omega)];rfl)
theorem Kv(p q:Rat)(hp:Fits p)(hq:Fits q):Fz 159 [A0 (frR p),A0 (frR q)] (Bg (p*q)):=by
 obtain⟨a1,a2,a3,a4,_⟩:=validB_spec.1 hp.valid
 obtain⟨b1,b2,b3,b4,_⟩:=validB_spec.1 hq.valid
 have hpq:p*q=A4 (p.num*q.num) (p.den*q.den):=by rw[<-F9 p,<-F9 q];unfold A4;rw[a7n];simp only[a7z]
 have b5:=C4 (p.num.natAbs:Int) q.num.natAbs (by omega) (by omega) (by omega) (by omega)
 have b6:=C4 (p.den:Int) q.den (by omega) (by omega) (by omega) (by omega)
 have b7:=a3s (show(0:Int)<p.den by omega) (show(0:Int)<q.den by omega)
 have c1:=Cy p.num (by omega) (by omega)
 have c2:=Cy q.num (by omega) (by omega)
 have c3:=Cy p.den (by omega) (by omega)
 have c4:=Cy q.den (by omega) (by omega)
 have m1:=Mj p.num.natAbs q.num.natAbs (by omega) (by omega) (by omega) (by omega)
 have m2:=Mj p.den q.den (by omega) (by omega) (by omega) (by omega)
 have cm:=Un (Du p.num q.num) (p.num*q.num) (p.den*q.den) ((p.num.natAbs:Int)*q.num.natAbs) ((p.den:Int)*q.den) (A44 _ _) (by omega) (by omega) (Ah4 _ _ _ _ (by omega) (by omega)) (by omega) (by omega)
 rw[<-hpq]at cm
 obtain⟨u,v,e,hu⟩:=Lw (p*q)
 rw[hu]at cm⊢
 have hbq:(decide (p.num<0) !=decide (q.num<0))=Du p.num q.num:=rfl
 generalize Du p.num q.num=nb at*
 generalize(p.num.natAbs:Int)*q.num.natAbs=X at*
 generalize(p.den:Int)*q.den=Y' at*
 clear b5 b6 b7 hpq
 refine Fo Tryz.func159 ?_
 repeat' first|refine WY ?_|refine Zbf hbq ?_|refine Zbg hbq ?_|refine Dw 24 ?_|refine V ?_|refine W2 ?_ ?_<;>intro hc
 all_goals exact D3 rfl rfl rfl rfl rfl rfl rfl
theorem K3(p q:Rat)(hp:Fits p)(hq:Fits q):Fz 207 [A0 (frR p),A0 (frR q)] (Bg (p+q)):=by
 obtain⟨a1,a2,a3,a4,_⟩:=validB_spec.1 hp.valid
 obtain⟨b1,b2,b3,b4,_⟩:=validB_spec.1 hq.valid
 have hpq:p+q=A4 (p.num*q.den+q.num*p.den) (p.den*q.den):=by
  rw[<-F9 p,<-F9 q];unfold A4;rw[a8s _ _ (by omega) (by omega)];simp only[a7z]
 have b5:=C4 (p.num.natAbs:Int) q.den (by omega) (by omega) (by omega) (by omega)
 have b6:=C4 (q.num.natAbs:Int) p.den (by omega) (by omega) (by omega) (by omega)
 have b8:=C4 (p.den:Int) q.den (by omega) (by omega) (by omega) (by omega)
 have b7:=a3s (show(0:Int)<p.den by omega) (show(0:Int)<q.den by omega)
 have c1:=Cy p.num (by omega) (by omega)
 have c2:=Cy q.num (by omega) (by omega)
 have c3:=Cy p.den (by omega) (by omega)
 have c4:=Cy q.den (by omega) (by omega)
 have m1:=Mj p.num.natAbs q.den (by omega) (by omega) (by omega) (by omega)
 have m2:=Mj q.num.natAbs p.den (by omega) (by omega) (by omega) (by omega)
 have m3:=Mj p.den q.den (by omega) (by omega) (by omega) (by omega)
 obtain⟨N,neg,hs,n0,nle,hpath⟩:=A2f p.num q.num (q.den:Int) (p.den:Int) (by omega) (by omega)
 have cm:=Un neg (p.num*q.den+q.num*p.den) (p.den*q.den) N ((p.den:Int)*q.den) (by rw[hs];cases neg<;>simp<;>omega) (by omega) (by omega) (fun hn=>by rw[Du,decide_eq_false (show ¬(p.den:Int)*q.den<0 by omega),hs];rw[hs]at hn;cases neg<;>simp at hn⊢<;>omega) (by omega) (by omega)
 rw[<-hpq]at cm
 obtain⟨u,v,e,hu⟩:=Lw (p+q)
 rw[hu]at cm⊢
 clear hpq hs
 generalize(p.num.natAbs:Int)*q.den=X at*
 generalize(q.num.natAbs:Int)*p.den=Z at*
 generalize(p.den:Int)*q.den=D at*
 have cls:=Sr X Z (by omega) (by omega)
 have cpl:=A61 X Z (by omega) (by omega) (by omega)
 have cx:=Mi X Z (by omega) (by omega) (by omega) (by omega)
 have cz:=Mi Z X (by omega) (by omega) (by omega) (by omega)
 rcases hpath with⟨s1,s2,hn⟩|⟨s1,s2,hlt,hn⟩|⟨s1,s2,hlt,hn⟩
 ·have hbq:(decide (p.num<0)==decide (q.num<0))=true:=by rw[s1,s2];exact beq_self_eq_true _
  rw[hn]at cpl
  rw[<-s1]at cm
  clear cx cz cls s1 s2 hn b5 b6 b7 b8 nle n0
  refine Fo b2g ?_
  repeat' first|refine WY ?_|refine Zbf hbq ?_|refine Zbg hbq ?_|refine Dw 8 ?_|refine Dw 10 ?_|refine V ?_|refine W2 ?_ ?_<;>intro hc
  all_goals exact D3 rfl rfl rfl rfl rfl rfl rfl
 ·have hbq:(decide (p.num<0)==decide (q.num<0))=false:=by rw[s1,s2];cases neg<;>rfl
  rw[show(Z-X)%340282366920938463463374607431768211456=N by omega]at cz
  rw[decide_eq_true hlt]at cls
  rw[<-s2]at cm
  clear cx cpl s1 s2 hn b5 b6 b7 b8 nle n0
  refine Fo b2g ?_
  repeat' first|refine WY ?_|refine Zbf hbq ?_|refine Zbg hbq ?_|refine Dw 8 ?_|refine Dw 10 ?_|refine V ?_|refine W2 ?_ ?_<;>intro hc
  all_goals exact D3 rfl rfl rfl rfl rfl rfl rfl
 ·have hbq:(decide (p.num<0)==decide (q.num<0))=false:=by rw[s1,s2];cases neg<;>rfl
  rw[show(X-Z)%340282366920938463463374607431768211456=N by omega]at cx
  rw[decide_eq_false hlt]at cls
  rw[<-s1]at cm
  clear cz cpl s1 s2 hn b5 b6 b7 b8 nle n0
  refine Fo b2g ?_
  repeat' first|refine WY ?_|refine Zbf hbq ?_|refine Zbg hbq ?_|refine Dw 8 ?_|refine Dw 10 ?_|refine V ?_|refine W2 ?_ ?_<;>intro hc
  all_goals exact D3 rfl rfl rfl rfl rfl rfl rfl
theorem A9r{q:Rat}(h:Fits q):Fits (-q):=by unfold Fits at*;rw[show(-q).num= -q.num from rfl,show(-q).den=q.den from rfl];omega
theorem O2(p q:Rat)(hp:Fits p)(hq:Fits q):Fz 124 [A0 (frR p),A0 (frR q)] (Bg (p-q)):=by
 have cn:=K4 q hq
 have c:=K3 p (-q) hp (A9r hq)
 rw[<-a4l]at c
 obtain⟨u,v,e,hu⟩:=Lw (p-q)
 rw[hu]at c⊢
 refine Fo Tryz.func124 ?_
 repeat' first|refine WY ?_|refine Dw 6 ?_|refine V ?_|refine W2 ?_ ?_<;>intro hc
 all_goals exact D3 rfl rfl rfl rfl rfl rfl rfl
theorem Fs(p q:Rat)(hp:Fits p)(hq:Fits q):Fz 43 [A0 (frR p),A0 (frR q)] (.i (Ay p q)):=by
 obtain⟨a1,a2,a3,a4,_⟩:=validB_spec.1 hp.valid
 obtain⟨b1,b2,b3,b4,_⟩:=validB_spec.1 hq.valid
 have l1:=A5j hp.valid hq.valid
 have l2:=A5j hq.valid hp.valid
 rw[F9,F9]at l1 l2
 have b5:=C4 (p.num.natAbs:Int) q.den (by omega) (by omega) (by omega) (by omega)
 have b6:=C4 (q.num.natAbs:Int) p.den (by omega) (by omega) (by omega) (by omega)
 have c1:=Cy p.num (by omega) (by omega)
 have c2:=Cy q.num (by omega) (by omega)
 have c3:=Cy p.den (by omega) (by omega)
 have c4:=Cy q.den (by omega) (by omega)
 have m1:=Mj p.num.natAbs q.den (by omega) (by omega) (by omega) (by omega)
 have m2:=Mj q.num.natAbs p.den (by omega) (by omega) (by omega) (by omega)
 have e1:p.num*q.den=if p.num<0 then-((p.num.natAbs:Int)*q.den)else(p.num.natAbs:Int)*q.den:=by
  split
  ·rw[<-a4n];congr 1;omega
  ·congr 1;omega
 have e2:q.num*p.den=if q.num<0 then-((q.num.natAbs:Int)*p.den)else(q.num.natAbs:Int)*p.den:=by
  split
  ·rw[<-a4n];congr 1;omega
  ·congr 1;omega
 have z1:p.num≠0->0<(p.num.natAbs:Int)*q.den:=fun h=>a3s (by omega) (by omega)
 have z2:q.num≠0->0<(q.num.natAbs:Int)*p.den:=fun h=>a3s (by omega) (by omega)
 have hcm:Ay p q=if p.num*q.den<q.num*p.den then-1 else if q.num*p.den<p.num*q.den then 1 else 0:=by unfold Ay;simp only[l1,l2]
 rw[hcm,e1,e2]
 clear hcm e1 e2 l1 l2
 unfold frR
 generalize(p.num.natAbs:Int)*q.den=X at*
 generalize(q.num.natAbs:Int)*p.den=Z at*
 have cl:=Sr X Z (by omega) (by omega)
 obtain⟨xh,gxh⟩:∃v,X/18446744073709551616=v:=⟨_,rfl⟩
 obtain⟨xl,gxl⟩:∃v,X%18446744073709551616=v:=⟨_,rfl⟩
 obtain⟨zh,gzh⟩:∃v,Z/18446744073709551616=v:=⟨_,rfl⟩
 obtain⟨zl,gzl⟩:∃v,Z%18446744073709551616=v:=⟨_,rfl⟩
 rw[show wR X=uW xh xl from Av gxh gxl,show wR Z=uW zh zl from Av gzh gzl]at cl
 rw[show wR X=uW xh xl from Av gxh gxl]at m1
 rw[show wR Z=uW zh zl from Av gzh gzl]at m2
 generalize p.num=an at*
 generalize q.num=bn at*
 have hx:(xh=zh/\xl=zl)↔X=Z:=by omega
 obtain⟨c,hbq⟩:∃c,(decide (X<Z)==decide (an>=0))=c:=⟨_,rfl⟩
 have hc0:c=true↔(X<Z↔an>=0):=by rw[<-hbq,beq_iff_eq,decide_eq_decide]
 cases c
 ·have hc1:¬(X<Z↔an>=0):=fun k=>Bool.false_ne_true (hc0.2 k)
  refine Fo Tryz.func43 ?_
  repeat' first|refine WY ?_|refine Zds ?_|refine Zbf hbq ?_|refine Zbg hbq ?_|refine Dw 16 ?_|refine Dw 6 ?_|refine V ?_|refine W2 ?_ ?_<;>intro hc
  all_goals first
   |(exfalso;omega)
   |exact Dd rfl rfl (congrArg (Value.int .i64) (by first|(rw[if_pos (by(repeat' split)<;>omega)];done)|(rw[if_neg (by(repeat' split)<;>omega),if_pos (by(repeat' split)<;>omega)];done)|(rw[if_neg (by(repeat' split)<;>omega),if_neg (by(repeat' split)<;>omega)];done)))
 ·have hc1:X<Z↔an>=0:=hc0.1 rfl
  refine Fo Tryz.func43 ?_
  repeat' first|refine WY ?_|refine Zds ?_|refine Zbf hbq ?_|refine Zbg hbq ?_|refine Dw 16 ?_|refine Dw 6 ?_|refine V ?_|refine W2 ?_ ?_<;>intro hc
  all_goals first
   |(exfalso;omega)
   |exact Dd rfl rfl (congrArg (Value.int .i64) (by first|(rw[if_pos (by(repeat' split)<;>omega)];done)|(rw[if_neg (by(repeat' split)<;>omega),if_pos (by(repeat' split)<;>omega)];done)|(rw[if_neg (by(repeat' split)<;>omega),if_neg (by(repeat' split)<;>omega)];done)))
theorem A7t(n d:Int)(n1: -1152921504606846976<=n)(n2:n<=1152921504606846976)(d1:1<=d)(d2:d<=1152921504606846976):Fz 221 [A0 [.i n,.i d]] (.i (n/d)):=by
 have key:∃x y:Int,n.tdiv d=x/\x*d=y/\ -1152921504606846976<=x/\x<=1152921504606846976/\ -1152921504606846976<=y/\y<=1152921504606846976/\n/d=if y>n then x-1 else x:=by
  by_cases h:0<=n
  ·obtain⟨k1,r0,r1⟩:=Fq n d (by omega)
   have q0:0<=n/d:=a1y h (by omega)
   have q1:n/d<=n:=a2q _ h
   have q3:0<=n/d*d:=a2c q0 (by omega)
   exact⟨n/d,_,a4d h,rfl,by omega,by omega,by omega,by omega,by rw[if_neg (by omega)]⟩
  ·obtain⟨e1,e2⟩:=Zy n d (by omega) d1
   have q0:0<= -n/d:=a1y (by omega) (by omega)
   have q1: -n/d<= -n:=a2q _ (by omega)
   obtain⟨f1,f2,f3⟩:=Fq (-n) d (by omega)
   have hy: -(-n/d)*d=n+ -n%d:=by rw[a4n];omega
   refine⟨_,_,e1,rfl,by omega,by omega,by omega,by omega,?_⟩
   rw[hy]
   exact(G2 n d (if n+ -n%d>n then-(-n/d)-1 else-(-n/d)) (if n+ -n%d>n then d- -n%d else 0) (by
    split
    ·rw[a9c,a4n];omega
    ·rw[a4n];omega) (by split<;>omega) (by split<;>omega)).1
 obtain⟨x,y,e1,e2,x1,x2,y1,y2,e3⟩:=key
 have hw:IntKind.i64.wrap (n.tdiv d)=n.tdiv d:=by rw[e1];exact Dy _ (by omega)
 have hy:some (n.tdiv d*d)=some y:=by rw[e1,e2]
 rw[e3,<-e1]
 rw[<-e1]at x1 x2
 clear e3
 by_cases hg:y>n
 ·rw[if_pos hg]
  refine Fo Tryz.func221 ?_
  repeat' first|refine WY ?_|(apply p3w;(iterate 3 exact rfl);omega;exact hw)|(apply S.arith;exact rfl;exact rfl;exact hy;exact rfl;omega)|refine V ?_|refine W2 ?_ ?_<;>intro hc
  all_goals exact Dd rfl rfl (by rfl)
 ·rw[if_neg hg]
  refine Fo Tryz.func221 ?_
  repeat' first|refine WY ?_|(apply p3w;(iterate 3 exact rfl);omega;exact hw)|(apply S.arith;exact rfl;exact rfl;exact hy;exact rfl;omega)|refine V ?_|refine W2 ?_ ?_<;>intro hc
  all_goals exact Dd rfl rfl (by rfl)
theorem Agt(q:Rat)(hq:Fits q):Fz 160 [A0 (frR q)] (.i (-(-q.num/q.den))):=by
 obtain⟨b1,b2,b3,b4,_⟩:=validB_spec.1 hq.valid
 have cn:=K4 q hq
 have c:=A7t (-q.num) q.den (by omega) (by omega) b1 b2
 have q1: -q.num/(q.den:Int)<=1152921504606846976/\ -1152921504606846976<= -q.num/(q.den:Int):=by
  refine⟨?_,A2m _ _ _ (by omega) (by omega)⟩
  have:=Mh (-q.num) q.den 1152921504606846977 (by omega) (by omega)
  omega
 refine Fo Tryz.func160 ?_
 repeat' first|refine WX ?_|refine W2 ?_ ?_<;>intro hc
 all_goals exact Dd rfl rfl (by exact congrArg (Value.int .i64) (by omega))
end Go.Proofs.YtcaicpnepfjcmaaGreat
