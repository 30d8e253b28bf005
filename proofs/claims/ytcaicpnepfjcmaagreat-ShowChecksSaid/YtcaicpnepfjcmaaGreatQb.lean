/- Lemmas of the proof. -/
import Derived.Test.YtcaicpnepfjcmaaGreatMd
import Derived.Laws.BitsLemmas
set_option linter.all false
set_option maxHeartbeats 64000000
namespace Go.Proofs.YtcaicpnepfjcmaaGreat
open Go Go.RowKit
def a3s:= @Int.mul_pos
def a4e:= @Int.sign_eq_one_of_pos
def a4l:= @Rat.sub_eq_add_neg
def a4n:= @Int.neg_mul
def a4v:= @Int.emod_nonneg
def a4y:= @Int.sign_eq_neg_one_of_neg
def a5d:= @Int.emod_lt_of_pos
def a5z:= @Bool.eq_iff_iff
def a6c:= @Nat.div_le_self
def a6f:= @Rat.num_eq_zero
def a6h:= @Int.lt_of_mul_lt_mul_right
def a7t:= @Int.gcd_pos_of_ne_zero_right
def a7x:= @Bool.true_eq_false
def a8o:= @Int.mul_ediv_add_emod
def a8p:= @Int.natCast_pow
def a8w:= @Tryz.func177
def a9b:= @Int.pow_pos
def a9c:= @Int.sub_mul
def a9i:= @Nat.le_of_dvd
def b0o:= @Int.mul_lt_mul_of_pos_right
def b0s:= @Rat.div_def
def b0y:= @Tryz.func39
def b1k:= @Nat.gcd_pos_of_pos_right
def b1q:= @Int.le_ediv_iff_mul_le
def b2s:= @Int.mul_add
def b2t:= @Int.neg_ediv_of_dvd
def b2z:= @Nat.div_pos
def b3o:= @Int.mul_right_comm
section
variable {P:Program}{N:Nat}{ops:Array Oper}{m:Option Nat}{K:Tm->AH->Prop}{tm:Tm}{H:AH}{rest:List Oper}{ty:TypeId}{pos:String}{af:Array Edge}{d:Nat}{t u:TypeId}{x y:Operand}
theorem p1b{bo:BinOp}{a b c r:Int}(hx:evT tm x=some (.val (.int .u64 a)))(hy:evT tm y=some (.val (.int .u64 b)))(hc:J7 bo a b=some c)(hr:c%18446744073709551616=r)(hN:LN d N)(h:Reg m P N ops rest ((d,.val (.int .u64 r))::tm) H K):Reg m P N ops (⟨some d,.binOp bo t x y u,ty,pos,af,none⟩::rest) tm H K:=by
 refine S.val (r:=.val (.int .u64 r)) ?_ hN h
 subst hr
 cases bo<;>simp only[J7,reduceCtorEq,a0h]at hc<;>subst hc<;>exact p3s rfl hx hy (by simp only[Qy];rw[C7])
theorem p1i{a r:Int}{k:Nat}(hx:evT tm x=some (.val (.int .u64 a)))(hy:evT tm y=some (.val (.int .u64 (k:Int))))(hk:k<=64)(hr:a/2^k=r)(hN:LN d N)(h:Reg m P N ops rest ((d,.val (.int .u64 r))::tm) H K):Reg m P N ops (⟨some d,.binOp .shr t x y u,ty,pos,af,none⟩::rest) tm H K:=by
 refine S.val (OpV.mk fun L w ρ η hη hH=>?_) hN h
 have h1:=(hη x (by simp[Op.operands]) _ hx).val_eq
 have h2:=(hη y (by simp[Op.operands]) _ hy).val_eq
 refine⟨_,?_,Ab _⟩
 simp only[execOp,h1,h2,eqGuard_shr,binOp_shr,shift_shr .u64 .u64 a k (by omega) (by simp[IntKind.bits];omega)]
 subst hr
 simp
theorem p1s{a r:Int}{k:Nat}(hx:evT tm x=some (.val (.int .u64 a)))(hy:evT tm y=some (.val (.int .u64 (k:Int))))(hk:k<=64)(hr:a*2^k%18446744073709551616=r)(hN:LN d N)(h:Reg m P N ops rest ((d,.val (.int .u64 r))::tm) H K):Reg m P N ops (⟨some d,.binOp .shl t x y u,ty,pos,af,none⟩::rest) tm H K:=by
 refine S.val (OpV.mk fun L w ρ η hη hH=>?_) hN h
 have h1:=(hη x (by simp[Op.operands]) _ hx).val_eq
 have h2:=(hη y (by simp[Op.operands]) _ hy).val_eq
 refine⟨_,?_,Ab _⟩
 simp only[execOp,h1,h2,eqGuard_shl,binOp_shl,shift_shl .u64 .u64 a k (by omega) (by simp[IntKind.bits];omega)]
 subst hr
 simp[C7]
theorem p1x{a b r:Int}(hx:evT tm x=some (.val (.int .u64 a)))(hy:evT tm y=some (.val (.int .u64 b)))(hr:bits .and .u64 a b=r)(hN:LN d N)(h:Reg m P N ops rest ((d,.val (.int .u64 r))::tm) H K):Reg m P N ops (⟨some d,.binOp .and t x y u,ty,pos,af,none⟩::rest) tm H K:=by
 refine S.val (OpV.mk fun L w ρ η hη hH=>?_) hN h
 have h1:=(hη x (by simp[Op.operands]) _ hx).val_eq
 have h2:=(hη y (by simp[Op.operands]) _ hy).val_eq
 refine⟨_,?_,Ab _⟩
 subst hr
 simp[execOp,h1,h2,eqGuard,binOp,Op.intArith,Op.intBits,go_sem]
 rfl
theorem p4v{a b r:Int}(hx:evT tm x=some (.val (.int .u64 a)))(hy:evT tm y=some (.val (.int .u64 b)))(hr:bits .or .u64 a b=r)(hN:LN d N)(h:Reg m P N ops rest ((d,.val (.int .u64 r))::tm) H K):Reg m P N ops (⟨some d,.binOp .or t x y u,ty,pos,af,none⟩::rest) tm H K:=by
 refine S.val (OpV.mk fun L w ρ η hη hH=>?_) hN h
 have h1:=(hη x (by simp[Op.operands]) _ hx).val_eq
 have h2:=(hη y (by simp[Op.operands]) _ hy).val_eq
 refine⟨_,?_,Ab _⟩
 subst hr
 simp[execOp,h1,h2,eqGuard,binOp,Op.intArith,Op.intBits,go_sem]
 rfl
end
theorem p6n{P:Program}{N id:Nat}{c:Code}{st:St}{F:St->Prop}{Q:Exit->St->Prop}(Mid:St->Prop)(h:T P N c st (Bq id (Cv Mid Q)))(k:∀st,Mid st->F st):T P N c st (Bq id (Cv F Q)):=
 h.mono fun e s q=>by
  cases e with
  |normal=>exact k s q
  |exit i=>
   have q':(match Nat.beq i id with|true=>Mid s|false=>Q (.exit i) s):=q
   show(match Nat.beq i id with|true=>F s|false=>Q (.exit i) s)
   cases hb:Nat.beq i id with
   |true=>rw[hb]at q';exact k s q'
   |false=>rw[hb]at q';exact q'
  |_=>exact q
theorem Afg(u y1 y0 n q r Y Q:Int)(hY:Y=y1*4294967296+y0)(hq:q*y1+r=u)(hQ:Q*Y<=u*4294967296+n)(hQ':Q<4294967296)(hY0:0<Y)
  (ht:4294967296<=q\/4294967296*r+n<q*y0):Q<=q-1:=by
 rcases ht with h|h
 ·omega
 ·have:u*4294967296+n<q*Y:=by rw[hY,<-hq,b2s,<-a3x,a4u];omega
  have h2:Q*Y<q*Y:=by omega
  have:=a6h h2 (by omega)
  omega
theorem A3l(u y1 y0 n q r Y Q:Int)(hY:Y=y1*4294967296+y0)(hq:q*y1+r=u)(hQ:u*4294967296+n<(Q+1)*Y)(hY0:0<Y)
  (ht:q*y0<=4294967296*r+n):q<=Q:=by
 have:q*Y<=u*4294967296+n:=by rw[hY,<-hq,b2s,<-a3x,a4u];omega
 have h2:q*Y<(Q+1)*Y:=by omega
 have:=a6h h2 (by omega)
 omega
theorem Jy(q y0:Int)(h0:0<=q)(h1:q<4294967296)(h2:0<=y0)(h3:y0<4294967296):0<=q*y0/\q*y0<=18446744065119617025:=by
 refine⟨a2c h0 h2,?_⟩
 have:=a3w (show q<=4294967295 by omega) (show y0<=4294967295 by omega) h2 (by omega)
 omega
theorem Ack(u y1 y0 n q r Y Q:Int)(hY:Y=y1*4294967296+y0)(hq:q*y1+r=u)(hu:u<Y)(hQ:u*4294967296+n<(Q+1)*Y)(hY0:0<Y)(h0:0<=q)(hy0:0<=y0)(hy0':y0<4294967296)(hy1:0<y1)(hn:0<=n)
  (hr:4294967296<=r):q<=Q:=by
 have h1:q<4294967296:=by
  have:q*y1<4294967296*y1:=by omega
  exact a6h this (by omega)
 have h2:=Jy q y0 h0 h1 hy0 hy0'
 exact A3l u y1 y0 n q r Y Q hY hq hQ hY0 (by omega)
theorem Ah6(q y1 r u:Int)(h:q*y1+r=u):(q-1)*y1+(r+y1)=u:=by rw[a9c];omega

theorem A2m(a b Q:Int)(hb:0<b)(h:Q*b<=a):Q<=a/b:=(b1q hb).2 h
theorem Mh(a b Q:Int)(hb:0<b)(h:a<Q*b):a/b<Q:=(Int.ediv_lt_iff_lt_mul hb).2 h
theorem Fq(a b:Int)(hb:0<b):a=(a/b)*b+a%b/\0<=a%b/\a%b<b:=
 ⟨by have:=a8o a b;rw[a5r]at this;omega,a4v _ (by omega),a5d _ hb⟩
theorem G2(U y q r:Int)(h:U=q*y+r)(h0:0<=r)(h1:r<y):U/y=q/\U%y=r:=by
 constructor
 ·rw[h,a5r,Int.mul_add_ediv_left _ _ (by omega),Int.ediv_eq_zero_of_lt h0 h1];omega
 ·rw[h,Int.add_comm,a5r,Int.add_mul_emod_self_left];exact Int.emod_eq_of_lt h0 h1
theorem A4l(u y1 y0 n Y:Int)(hY:Y=y1*4294967296+y0)(h1:2147483648<=y1)(h3:0<=y0)(h4:y0<4294967296)(h5:0<=u)(h6:u<Y)(h7:0<=n)(h8:n<4294967296):
  0<=u/y1/\u/y1<=4294967297/\0<=u/y1*y1/\u/y1*y1<=u/\u-u/y1*y1<y1/\
  (u*4294967296+n)/Y*Y<=u*4294967296+n/\u*4294967296+n<((u*4294967296+n)/Y+1)*Y/\0<=(u*4294967296+n)/Y/\(u*4294967296+n)/Y<4294967296/\(u*4294967296+n)/Y<=u/y1:=by
 obtain⟨e1,e2,e3⟩:=Fq u y1 (by omega)
 obtain⟨f1,f2,f3⟩:=Fq (u*4294967296+n) Y (by omega)
 have q0:0<=u/y1:=a1y h5 (by omega)
 have Q0:0<=(u*4294967296+n)/Y:=a1y (by omega) (by omega)
 refine⟨q0,?_,a2c q0 (by omega),by omega,by omega,by omega,?_,Q0,?_,?_⟩
 ·have:u/y1<4294967298:=Mh _ _ _ (by omega) (by omega)
  omega
 ·rw[a4u];omega
 ·exact Mh _ _ _ (by omega) (by omega)
 ·refine A2m _ _ _ (by omega) ?_
  have g:(u*4294967296+n)/Y*Y=(u*4294967296+n)/Y*y1*4294967296+(u*4294967296+n)/Y*y0:=by
   conv=>lhs;rw[hY]
   rw[b2s,a3x,<-hY]
  have g2:0<=(u*4294967296+n)/Y*y0:=a2c Q0 h3
  omega
theorem Rv(n:Int)(h₀:0<=n)(h₁:n<2^64):IntKind.u64.wrap n=n:=by rw[C7];omega
theorem A1x(x:Int)(h0:0<=x)(h1:x<18446744073709551616):bits .and .u64 x 4294967295=x%4294967296:=
 bits_mask .u64 64 (by decide) Rv 32 (by decide) x h0 (by simpa using h1)

theorem Tv{u m:Int}(h0:0<=m)(h1:m<=u)(h2:u<18446744073709551616):(u-m%18446744073709551616)%18446744073709551616=u-m:=by omega
theorem X0{q r y1 x n Q:Int}(a1:0<=q)(a2:q<=4294967297)(a3:0<=r)(a4:r<4294967296)(a5:Q<=q)(y0:0<y1)(y2:y1<4294967296)(n0:0<=n)(n1:n<4294967296)(f1:4294967296<=q\/4294967296*r+n<x->Q<=q-1)(f2:x<=4294967296*r+n->q<=Q)(f3:1<=q->4294967296<=r+y1->q-1<=Q)(f4:q<4294967296->0<=x/\x<=18446744065119617025)(z:q=0->x=0)(hQ:0<=Q):
  (q>=4294967296\/x%18446744073709551616>(4294967296*r%18446744073709551616+n)%18446744073709551616->(q-1)%18446744073709551616=q-1/\(r+y1)%18446744073709551616=r+y1/\1<=q/\Q<=q-1/\(r+y1>=4294967296->q-1=Q))/\(¬q>=4294967296->¬x%18446744073709551616>(4294967296*r%18446744073709551616+n)%18446744073709551616->q=Q):=by
 constructor
 ·intro h
  have h1:4294967296<=q\/4294967296*r+n<x:=by
   rcases h with h|h
   ·exact .inl h
   ·by_cases e:q<4294967296
    ·have:=f4 e;exact .inr (by omega)
    ·exact .inl (by omega)
  have h2:=f1 h1
  have h3:1<=q:=by omega
  exact⟨by omega,by omega,h3,h2,fun h4=>by have:=f3 h3 h4;omega⟩
 ·intro h h'
  have h1:=f4 (by omega)
  have:=f2 (by omega)
  omega
theorem A7g(hi lo y Y y1 y0 u32 u10 u1 u0 Q1 R1 Q0 R0:Int)(k L:Nat)(h0:1<=hi)(h0':hi<y)(h1:0<=lo)(h2:lo<18446744073709551616)(h4:y<18446744073709551616)
  (hk:k<=64) (hL:L<=64) (clz:Fz 290 [uA y] (.i (k:Int))) (hkk:(k:Int)%18446744073709551616=(k:Int)) (hkL:(64-(k:Int))%18446744073709551616=(L:Int))
  (hY:y*2^k%18446744073709551616=Y) (hY1:9223372036854775808<=Y) (hY2:Y<18446744073709551616) (hy1:Y/4294967296=y1) (hy0:bits .and .u64 Y 4294967295=y0) (b3:0<=y0) (b4:y0<4294967296)
  (hu:bits .or .u64 (hi*2^k%18446744073709551616) (lo/2^L)=u32) (b5:0<=u32) (b6:u32<Y)
  (hl:lo*2^k%18446744073709551616=u10) (hl1:u10/4294967296=u1) (hl0:bits .and .u64 u10 4294967295=u0) (b7:0<=u10) (b7':u10<18446744073709551616) (b10:0<=u0) (b11:u0<4294967296)
  (k1:Y=y1*4294967296+y0)
  (tq:∀u n Q:Int,0<=u->u<Y->0<=n->n<4294967296->Q*Y<=u*4294967296+n->u*4294967296+n<(Q+1)*Y->0<=u/y1/\u/y1<=4294967297/\0<=u/y1*y1/\u/y1*y1<=u/\u-u/y1*y1<y1/\0<=Q/\Q<4294967296/\Q<=u/y1)
  (k2:Q1*Y<=u32*4294967296+u1) (k3:u32*4294967296+u1<(Q1+1)*Y)
  (hR:((u32*4294967296%18446744073709551616+u1)%18446744073709551616-Q1*Y%18446744073709551616)%18446744073709551616=R1) (d1:0<=R1) (d2:R1<Y)
  (l2:Q0*Y<=R1*4294967296+u0) (l3:R1*4294967296+u0<(Q0+1)*Y)
  (hR0:((R1*4294967296%18446744073709551616+u0)%18446744073709551616-Q0*Y%18446744073709551616)%18446744073709551616=R0):
  Fz 252 [uA hi,uA lo,uA y] (.tup [uA ((Q1*4294967296+Q0)%18446744073709551616),uA (R0/2^k)]):=by
 have g1:¬y=0:=by omega
 have g2:¬y<=hi:=by omega
 have g3:¬hi=0:=by omega
 have g4:0<y1:=by omega
 have g5:2147483648<=y1:=by omega
 have b8:0<=u1/\u1<4294967296:=by omega
 obtain⟨p1,p2,p3,p4,p5,p6,p7,p8⟩:=tq u32 u1 Q1 b5 b6 b8.1 b8.2 k2 k3
 obtain⟨r1,r2,r3,r4,r5,r6,r7,r8⟩:=tq R1 u0 Q0 d1 d2 b10 b11 l2 l3
 have hF:Q1*4294967296%18446744073709551616=Q1*4294967296:=by omega
 have y1b:y1<4294967296:=by omega
 have round:∀(u n Q q r:Int),u<Y->0<=n->u*4294967296+n<(Q+1)*Y->Q*Y<=u*4294967296+n->Q<4294967296->q*y1+r=u->0<=q->0<=r->
   (4294967296<=q\/4294967296*r+n<q*y0->Q<=q-1)/\(q*y0<=4294967296*r+n->q<=Q)/\(1<=q->4294967296<=r+y1->q-1<=Q)/\(q<4294967296->0<=q*y0/\q*y0<=18446744065119617025)/\(q-1)*y1+(r+y1)=u:=fun u n Q q r a1 a2 a3 a4 a5 a6 a7 a8=>by
  have hst:=Ah6 q y1 r u a6
  exact⟨fun h=>Afg u y1 y0 n q r Y Q k1 a6 a4 a5 (by omega) h,fun h=>A3l u y1 y0 n q r Y Q k1 a6 a3 (by omega) h,fun h h'=>Ack u y1 y0 n (q-1) (r+y1) Y Q k1 hst a1 a3 (by omega) (by omega) b3 b4 (by omega) a2 h',fun h=>Jy q y0 a7 h b3 b4,hst⟩
 refine Fo Tryz.func252 ?_
 repeat' first|refine WY ?_|refine Y ?_|refine Zbo ?_|(apply p0j;exact rfl;exact(C7 _).trans hkk;exact rfl)|(apply p1s (k:=k);exact rfl;exact rfl;exact hk;(with_reducible assumption);exact rfl)|(apply p1s (k:=k);exact rfl;exact rfl;exact hk;exact rfl;exact rfl)|(apply p1i (k:=L);exact rfl;exact rfl;exact hL;exact rfl;exact rfl)|(apply p1i (k:=32);exact rfl;exact rfl;decide;exact hy1;exact rfl)|(apply p1i (k:=32);exact rfl;exact rfl;decide;exact hl1;exact rfl)|(apply p1x;exact rfl;exact rfl;(with_reducible assumption);exact rfl)|(apply p4v;exact rfl;exact rfl;(with_reducible assumption);exact rfl)|(apply p1b;(iterate 3 exact rfl);(with_reducible assumption);exact rfl)|(apply p1b;(iterate 5 exact rfl))|refine V ?_|refine W2 ?_ ?_<;>intro hc
 refine p6n (Meets [(15,uA Q1),(9,uA y1),(10,uA y0),(11,uA u32),(13,uA u1),(14,uA u0),(2,uA Y),(8,uA k)] []) ?_ ?_
 ·clear hY hy0 hu hl hl0 hR hR0 hkk hkL tq g1 g2 g3 h0 h0' h1 h2 h4 hF hy1 hl1 clz d1 d2 l2 l3 r1 r2 r3 r4 r5 r6 r7 r8 b7 b7' b10 b11 hY1
  have st:=Tv p3 p4 (by omega:u32<18446744073709551616)
  refine p0c (fun p:Int×Int=>p.1*y1+p.2=u32/\0<=p.1/\p.1<=4294967297/\0<=p.2/\p.2<4294967296/\Q1<=p.1) (fun p=>p.1.toNat) (fun p=>(15,uA p.1)::(16,uA p.2)::[(9,uA y1),(10,uA y0),(11,uA u32),(13,uA u1),(14,uA u0),(2,uA Y),(8,uA k)]) (fun _=>[]) (u32/y1,(u32-u32/y1*y1%18446744073709551616)%18446744073709551616) ⟨by dsimp only;rw[st];omega,p1,p2,by dsimp only;rw[st];omega,by dsimp only;rw[st];omega,p8⟩ CV .nil ?_
  clear st
  rintro⟨q,r⟩ ⟨a0,a1,a2,a3,a4,a5⟩
  dsimp only at a0 a1 a2 a3 a4 a5⊢
  obtain⟨f1,f2,f3,f4,f5⟩:=round u32 u1 Q1 q r b6 b8.1 k3 k2 p7 a0 a1 a3
  obtain⟨m1,m2⟩:=X0 a1 a2 a3 a4 a5 g4 y1b b8.1 b8.2 f1 f2 f3 f4 (fun h=>by rw[h];exact a9v _) p6
  obtain⟨q',gq⟩:∃v,(q-1)%18446744073709551616=v:=⟨_,rfl⟩
  obtain⟨r',gr⟩:∃v,(r+y1)%18446744073709551616=v:=⟨_,rfl⟩
  clear round f1 f2 f3 f4 k1 b3 b4
  repeat' first|refine WY ?_|refine Zbo ?_|(apply p0j;exact rfl;exact(C7 _).trans hkk;exact rfl)|(apply p1s (k:=k);exact rfl;exact rfl;exact hk;(with_reducible assumption);exact rfl)|(apply p1s (k:=k);exact rfl;exact rfl;exact hk;exact rfl;exact rfl)|(apply p1i (k:=L);exact rfl;exact rfl;exact hL;exact rfl;exact rfl)|(apply p1i (k:=32);exact rfl;exact rfl;decide;exact hy1;exact rfl)|(apply p1i (k:=32);exact rfl;exact rfl;decide;exact hl1;exact rfl)|(apply p1x;exact rfl;exact rfl;(with_reducible assumption);exact rfl)|(apply p4v;exact rfl;exact rfl;(with_reducible assumption);exact rfl)|(apply p1b;(iterate 3 exact rfl);(with_reducible assumption);exact rfl)|(apply p1b;(iterate 5 exact rfl))|refine V ?_|refine W2 ?_ ?_<;>intro hc
  all_goals first
   |(change Next _ _ _ _ _ _;have e:=m1 (by first|exact .inl (by assumption)|exact .inr (by assumption));obtain⟨e1,e2,e3,e4,e5⟩:=e;obtain rfl:=gq.symm.trans e1;obtain rfl:=gr.symm.trans e2;exact Next.go (q-1,r+y1) ⟨f5,by dsimp only;omega,by dsimp only;omega,by dsimp only;omega,by dsimp only;omega,e4⟩ (by dsimp only;omega) CV .nil)
   |(show Meets _ _ _;have e:=m2 (by assumption) (by assumption);obtain rfl:=e;exact⟨CV,.nil⟩)
   |(show Meets _ _ _;have e:=m1 (by first|exact .inl (by assumption)|exact .inr (by assumption));obtain⟨e1,e2,e3,e4,e5⟩:=e;obtain rfl:=gr.symm.trans e2;have e6:=e5 (by assumption);obtain rfl:=(gq.symm.trans e1).trans e6;exact⟨CV,.nil⟩)
   |(trace_state;fail)
 rintro⟨tm0,H0⟩ ⟨hm1,hm2⟩
 refine T.cov hm1 hm2 ?_
 clear hm1 hm2 tm0 H0 k2 k3
 repeat' first|refine WY ?_|refine Zbo ?_|(apply p0j;exact rfl;exact(C7 _).trans hkk;exact rfl)|(apply p1s (k:=k);exact rfl;exact rfl;exact hk;(with_reducible assumption);exact rfl)|(apply p1s (k:=k);exact rfl;exact rfl;exact hk;exact rfl;exact rfl)|(apply p1i (k:=L);exact rfl;exact rfl;exact hL;exact rfl;exact rfl)|(apply p1i (k:=32);exact rfl;exact rfl;decide;exact hy1;exact rfl)|(apply p1i (k:=32);exact rfl;exact rfl;decide;exact hl1;exact rfl)|(apply p1x;exact rfl;exact rfl;(with_reducible assumption);exact rfl)|(apply p4v;exact rfl;exact rfl;(with_reducible assumption);exact rfl)|(apply p1b;(iterate 3 exact rfl);(with_reducible assumption);exact rfl)|(apply p1b;(iterate 5 exact rfl))|refine V ?_|refine W2 ?_ ?_<;>intro hc
 refine p6n (Meets [(18,uA Q0),(15,uA Q1),(17,uA R1),(14,uA u0),(2,uA Y),(8,uA k)] []) ?_ ?_
 ·clear hY hy0 hu hl hl0 hR hR0 hkk hkL tq g1 g2 g3 h0 h0' h1 h2 h4 hF hy1 hl1 clz p1 p2 p3 p4 p5 p6 p7 p8 b5 b6 b7 b7' b8 hY1
  have st:=Tv r3 r4 (by omega:R1<18446744073709551616)
  refine p0c (fun p:Int×Int=>p.1*y1+p.2=R1/\0<=p.1/\p.1<=4294967297/\0<=p.2/\p.2<4294967296/\Q0<=p.1) (fun p=>p.1.toNat) (fun p=>(18,uA p.1)::(16,uA p.2)::[(15,uA Q1),(9,uA y1),(10,uA y0),(17,uA R1),(14,uA u0),(2,uA Y),(8,uA k)]) (fun _=>[]) (R1/y1,(R1-R1/y1*y1%18446744073709551616)%18446744073709551616) ⟨by dsimp only;rw[st];omega,r1,r2,by dsimp only;rw[st];omega,by dsimp only;rw[st];omega,r8⟩ CV .nil ?_
  clear st
  rintro⟨q,r⟩ ⟨a0,a1,a2,a3,a4,a5⟩
  dsimp only at a0 a1 a2 a3 a4 a5⊢
  obtain⟨f1,f2,f3,f4,f5⟩:=round R1 u0 Q0 q r d2 b10 l3 l2 r7 a0 a1 a3
  obtain⟨m1,m2⟩:=X0 a1 a2 a3 a4 a5 g4 y1b b10 b11 f1 f2 f3 f4 (fun h=>by rw[h];exact a9v _) r6
  obtain⟨q',gq⟩:∃v,(q-1)%18446744073709551616=v:=⟨_,rfl⟩
  obtain⟨r',gr⟩:∃v,(r+y1)%18446744073709551616=v:=⟨_,rfl⟩
  clear round f1 f2 f3 f4 k1 b3 b4
  repeat' first|refine WY ?_|refine Zbo ?_|(apply p0j;exact rfl;exact(C7 _).trans hkk;exact rfl)|(apply p1s (k:=k);exact rfl;exact rfl;exact hk;(with_reducible assumption);exact rfl)|(apply p1s (k:=k);exact rfl;exact rfl;exact hk;exact rfl;exact rfl)|(apply p1i (k:=L);exact rfl;exact rfl;exact hL;exact rfl;exact rfl)|(apply p1i (k:=32);exact rfl;exact rfl;decide;exact hy1;exact rfl)|(apply p1i (k:=32);exact rfl;exact rfl;decide;exact hl1;exact rfl)|(apply p1x;exact rfl;exact rfl;(with_reducible assumption);exact rfl)|(apply p4v;exact rfl;exact rfl;(with_reducible assumption);exact rfl)|(apply p1b;(iterate 3 exact rfl);(with_reducible assumption);exact rfl)|(apply p1b;(iterate 5 exact rfl))|refine V ?_|refine W2 ?_ ?_<;>intro hc
  all_goals first
   |(change Next _ _ _ _ _ _;have e:=m1 (by first|exact .inl (by assumption)|exact .inr (by assumption));obtain⟨e1,e2,e3,e4,e5⟩:=e;obtain rfl:=gq.symm.trans e1;obtain rfl:=gr.symm.trans e2;exact Next.go (q-1,r+y1) ⟨f5,by dsimp only;omega,by dsimp only;omega,by dsimp only;omega,by dsimp only;omega,e4⟩ (by dsimp only;omega) CV .nil)
   |(show Meets _ _ _;have e:=m2 (by assumption) (by assumption);obtain rfl:=e;exact⟨CV,.nil⟩)
   |(show Meets _ _ _;have e:=m1 (by first|exact .inl (by assumption)|exact .inr (by assumption));obtain⟨e1,e2,e3,e4,e5⟩:=e;obtain rfl:=gr.symm.trans e2;have e6:=e5 (by assumption);obtain rfl:=(gq.symm.trans e1).trans e6;exact⟨CV,.nil⟩)
   |(trace_state;fail)
 rintro⟨tm0,H0⟩ ⟨hm1,hm2⟩
 refine T.cov hm1 hm2 ?_
 clear hm1 hm2 tm0 H0 l2 l3
 repeat' first|refine W ?_|(apply p1i (k:=k);exact rfl;exact rfl;exact hk;exact rfl;exact rfl)|refine Y ?_|refine Zbo ?_|(apply p0j;exact rfl;exact(C7 _).trans hkk;exact rfl)|(apply p1s (k:=k);exact rfl;exact rfl;exact hk;(with_reducible assumption);exact rfl)|(apply p1s (k:=k);exact rfl;exact rfl;exact hk;exact rfl;exact rfl)|(apply p1i (k:=L);exact rfl;exact rfl;exact hL;exact rfl;exact rfl)|(apply p1i (k:=32);exact rfl;exact rfl;decide;exact hy1;exact rfl)|(apply p1i (k:=32);exact rfl;exact rfl;decide;exact hl1;exact rfl)|(apply p1x;exact rfl;exact rfl;(with_reducible assumption);exact rfl)|(apply p4v;exact rfl;exact rfl;(with_reducible assumption);exact rfl)|(apply p1b;(iterate 3 exact rfl);(with_reducible assumption);exact rfl)|(apply p1b;(iterate 5 exact rfl))|refine Dw 20 ?_|refine Dw 21 ?_|refine Dw 22 ?_|refine Da ?_|refine V ?_|refine W2 ?_ ?_<;>intro hc
 all_goals exact D2 rfl rfl rfl
theorem A5o(u n Q Y R:Int)(h:u*4294967296+n=Q*Y+R)(h0:0<=R)(h1:R<18446744073709551616):((u*4294967296%18446744073709551616+n)%18446744073709551616-Q*Y%18446744073709551616)%18446744073709551616=R:=by
 generalize Q*Y=z at*
 omega
set_option maxRecDepth 100000 in
theorem A0u(hi lo y:Int)(h0:0<=hi)(h0':hi<y)(h1:0<=lo)(h2:lo<18446744073709551616)(h4:y<18446744073709551616):Fz 252 [uA hi,uA lo,uA y] (.tup [uA ((hi*18446744073709551616+lo)/y),uA ((hi*18446744073709551616+lo)%y)]):=by
 by_cases hz:hi=0
 ·subst hz
  rw[show(0:Int)*18446744073709551616+lo=lo by omega]
  have g1:¬y=0:=by omega
  have g2:¬y<=0:=by omega
  refine Fo Tryz.func252 ?_
  repeat' first|refine WY ?_|refine Zdx ?_|refine Zbo ?_|refine Dw 8 ?_|refine Da ?_|refine V ?_|refine W2 ?_ ?_<;>intro hc
  all_goals exact D2 rfl rfl rfl
 ·have hy0:y.toNat≠0:=by omega
  obtain⟨B1,B2,B3⟩:=Lib.bitLenAux_bounds 64 y.toNat (by omega) hy0
  have B4:Lib.bitLen y.toNat<=64:=Lib.bitLen_le y.toNat 64 (by omega) (by omega)
  change 1<=Lib.bitLen y.toNat at B1
  change 2^(Lib.bitLen y.toNat-1)<=y.toNat at B2
  change y.toNat<2^Lib.bitLen y.toNat at B3
  generalize hL:Lib.bitLen y.toNat=L at*
  obtain⟨k,hk,hk'⟩:∃k,L=64-k/\k<=63:=⟨64-L,by omega,by omega⟩
  have ht:(2:Int)^k*2^L=18446744073709551616:=by rw[<-Int.pow_add,show k+L=64 by omega];decide
  have ht':(2:Int)^(L-1)*2^k=9223372036854775808:=by rw[<-Int.pow_add,show L-1+k=63 by omega];decide
  have B2':(2:Int)^(L-1)<=y:=by
   have:((2^(L-1):Nat):Int)<=y.toNat:=by exact_mod_cast B2
   rw[a8p]at this
   have e:((y.toNat:Nat):Int)=y:=by omega
   rw[e]at this;exact this
  have B3':y<(2:Int)^L:=by
   have:(y.toNat:Int)<((2^L:Nat):Int):=by exact_mod_cast B3
   rw[a8p]at this
   have e:((y.toNat:Nat):Int)=y:=by omega
   rw[e]at this;exact this
  have tp:0<(2:Int)^k:=a9b (by decide)
  have Tp:0<(2:Int)^L:=a9b (by decide)
  have es:(k:Int).toNat=k:=by omega
  have eL:(64-(k:Int)).toNat=L:=by omega
  have clz:Fz 290 [uA y] (.i (k:Int)):=by
   refine p2u (us:=[.int .u64 y]) ⟨_,Tryz.func290,rfl,rfl⟩ rfl (fun w L=>Ab _) fun w=>?_
   refine(Tryz.bits_LeadingZeros64 y w (by omega) (by omega)).mono ?_
   rintro e w' ⟨rfl,rfl⟩
   exact⟨by rw[hL];congr 2;omega,Below.refl _ _⟩
  have div:=A7g hi lo y (y*2^k)
  generalize(2:Int)^(L-1)=V at*
  have hTk:∀a:Int,0<=a->a<2^k->(a:Int)<2^k:=fun _ _ h=>h
  have hYlo:9223372036854775808<=y*2^k:=by rw[<-ht'];exact a3q B2' (by omega)
  have hYhi:y*2^k<18446744073709551616:=by rw[<-ht,a5r (2^k)];exact b0o B3' tp
  obtain⟨a1,a2,a3⟩:=Fq lo (2^L) Tp
  have lt1:lo/2^L<2^k:=Mh _ _ _ Tp (by rw[ht];exact h2)
  have lt0:0<=lo/2^L:=a1y h1 (by omega)
  have hit:hi*2^k<=(y-1)*2^k:=a3q (by omega) (by omega)
  have hit':(y-1)*2^k=y*2^k-2^k:=by rw[a9c];omega
  have hit0:0<=hi*2^k:=a2c h0 (by omega)
  have low0:0<=lo%2^L*2^k:=a2c a2 (by omega)
  have low1:lo%2^L*2^k<18446744073709551616:=by rw[<-ht,a5r (2^k)];exact b0o a3 tp
  have lowe:lo*2^k=lo/2^L*18446744073709551616+lo%2^L*2^k:=by
   conv=>lhs;rw[a1]
   rw[a4u,a3x,a5r (2^L),ht]
  have W1:hi*2^k%18446744073709551616=hi*2^k:=by omega
  have W2:y*2^k%18446744073709551616=y*2^k:=by omega
  have W3:lo*2^k%18446744073709551616=lo%2^L*2^k:=by rw[lowe];omega
  have W4:bits .or .u64 (hi*2^k) (lo/2^L)=hi*2^k+lo/2^L:=
   bits_join .u64 64 (by decide) Rv k _ _ hit0 (by rw[Int.mul_emod_left]) (by simpa using(by omega:hi*2^k<18446744073709551616)) lt0 lt1 (by simpa using(by omega:lo/2^L<18446744073709551616))
  have key:(hi*18446744073709551616+lo)*2^k=(hi*2^k+lo/2^L)*18446744073709551616+lo%2^L*2^k:=by
   rw[a4u,lowe,a4u,a3x,a5r 18446744073709551616,<-a3x];omega
  have ub:hi*2^k+lo/2^L<y*2^k:=by omega
  have ub0:0<=hi*2^k+lo/2^L:=by omega
  have W5:bits .or .u64 (hi*2^k%18446744073709551616) (lo/2^L)=hi*2^k+lo/2^L:=by rw[W1];exact W4
  have fin:=fun y0 u0 Q1 R1 Q0 R0=>div (y*2^k/4294967296) y0 (hi*2^k+lo/2^L) (lo%2^L*2^k) (lo%2^L*2^k/4294967296) u0 Q1 R1 Q0 R0 k L (by omega) h0' h1 h2 h4 (by omega) (by omega) clz (by omega) (by omega) W2 hYlo hYhi rfl
  have fin2:=fun y0 u0 Q1 R1 Q0 R0 (m1:bits .and .u64 (y*2^k) 4294967295=y0) b3 b4=>fin y0 u0 Q1 R1 Q0 R0 m1 b3 b4 W5 ub0 ub W3 rfl
  clear W1 W2 W3 W4 W5 lowe hit hit' a1 B2 B3 fin div clz
  generalize hi*2^k+lo/2^L=u32 at*
  generalize lo%2^L*2^k=u10 at*
  have hYd:y*2^k=(y*2^k)/4294967296*4294967296+(y*2^k)%4294967296:=by omega
  have tq:∀u n Q:Int,0<=u->u<y*2^k->0<=n->n<4294967296->Q*(y*2^k)<=u*4294967296+n->u*4294967296+n<(Q+1)*(y*2^k)->0<=u/((y*2^k)/4294967296)/\u/((y*2^k)/4294967296)<=4294967297/\0<=u/((y*2^k)/4294967296)*((y*2^k)/4294967296)/\u/((y*2^k)/4294967296)*((y*2^k)/4294967296)<=u/\u-u/((y*2^k)/4294967296)*((y*2^k)/4294967296)<(y*2^k)/4294967296/\0<=Q/\Q<4294967296/\Q<=u/((y*2^k)/4294967296):=fun u n Q a1 a2 a3 a4 a5 a6=>by
   have hQ:(u*4294967296+n)/(y*2^k)=Q:=(G2 _ (y*2^k) Q (u*4294967296+n-Q*(y*2^k)) (by omega) (by omega) (by rw[a4u]at a6;omega)).1
   obtain⟨e1,e2,e3,e4,e5,e6,e7,e8,e9,e10⟩:=A4l u ((y*2^k)/4294967296) ((y*2^k)%4294967296) n (y*2^k) hYd (by omega) (by omega) (by omega) a1 a2 a3 a4
   rw[hQ]at e8 e9 e10
   exact⟨e1,e2,e3,e4,e5,e8,e9,e10⟩
  obtain⟨r1,r2,r3⟩:=Fq (u32*4294967296+u10/4294967296) (y*2^k) (by omega)
  obtain⟨v1,v2,v3⟩:=Fq ((u32*4294967296+u10/4294967296)%(y*2^k)*4294967296+u10%4294967296) (y*2^k) (by omega)
  have fin3:=fin2 _ _ _ _ _ _ (A1x _ (by omega) hYhi) (by omega) (by omega) (A1x _ low0 low1) low0 low1 (by omega) (by omega) hYd tq (by omega) (by rw[a4u];omega) (A5o _ _ _ _ _ r1 r2 (by omega)) r2 r3 (by omega) (by rw[a4u];omega) (A5o _ _ _ _ _ v1 v2 (by omega))
  clear fin2 tq
  generalize(u32*4294967296+u10/4294967296)/(y*2^k)=Q1 at*
  generalize(u32*4294967296+u10/4294967296)%(y*2^k)=R1 at*
  generalize(R1*4294967296+u10%4294967296)/(y*2^k)=Q0 at*
  generalize(R1*4294967296+u10%4294967296)%(y*2^k)=R0 at*
  have e0:R0=(hi*18446744073709551616+lo-(Q1*4294967296+Q0)*y)*2^k:=by
   rw[a9c,key,a3x,a4u,b3o]
   omega
  have e1:R0/2^k=hi*18446744073709551616+lo-(Q1*4294967296+Q0)*y:=by rw[e0];exact Int.mul_ediv_cancel _ (by omega)
  have e2:0<=hi*18446744073709551616+lo-(Q1*4294967296+Q0)*y:=by rw[<-e1];exact a1y v2 (by omega)
  have e3:hi*18446744073709551616+lo-(Q1*4294967296+Q0)*y<y:=by
   refine a6h (a:=2^k) ?_ (by omega)
   rw[<-e0];exact v3
  obtain⟨d1,d2⟩:=G2 (hi*18446744073709551616+lo) y (Q1*4294967296+Q0) _ (by omega) e2 e3
  rw[d1,d2,<-e1]
  have d3:Q1*4294967296+Q0<18446744073709551616:=by rw[<-d1];exact Mh _ _ _ (by omega) (by omega)
  have d4:0<=Q1*4294967296+Q0:=by rw[<-d1];exact a1y (by omega) (by omega)
  rw[show(Q1*4294967296+Q0)%18446744073709551616=Q1*4294967296+Q0 by omega]at fin3
  exact fin3
theorem A48(p b:Int)(hb:1<=b)(hp:0<=p):
  p/18446744073709551616/b=p/b/18446744073709551616/\(p/18446744073709551616%b*18446744073709551616+p%18446744073709551616)/b=p/b%18446744073709551616/\(p/18446744073709551616%b*18446744073709551616+p%18446744073709551616)%b=p%b:=by
 obtain⟨e1,e2,e3⟩:=Fq (p/18446744073709551616) b (by omega)
 obtain⟨f1,f2,f3⟩:=Fq (p/18446744073709551616%b*18446744073709551616+p%18446744073709551616) b (by omega)
 generalize p/18446744073709551616/b=H at*
 generalize p/18446744073709551616%b=R at*
 have hL0:0<=(R*18446744073709551616+p%18446744073709551616)/b:=a1y (by omega) (by omega)
 have hL1:(R*18446744073709551616+p%18446744073709551616)/b<18446744073709551616:=Mh _ _ _ (by omega) (by omega)
 generalize hL:(R*18446744073709551616+p%18446744073709551616)/b=L at*
 generalize hS:(R*18446744073709551616+p%18446744073709551616)%b=Q at*
 have key:p=(H*18446744073709551616+L)*b+Q:=by
  rw[a4u,b3o]
  generalize H*b=x at*
  generalize L*b=y at*
  omega
 obtain⟨d1,d2⟩:=G2 p b (H*18446744073709551616+L) Q key f2 f3
 rw[d1,d2]
 omega
theorem A6b(p b:Int)(hp:0<=p)(hp':p<340282366920938463463374607431768211456)(hb:1<=b)(hb':b<18446744073709551616):Fz 245 [A0 (wR p),uA b] (.tup [A0 (wR (p/b)),uA (p%b)]):=by
 obtain⟨e1,e2,e3⟩:=A48 p b hb hp
 have r0:=a4v (p/18446744073709551616) (show b≠0 by omega)
 have r1:=a5d (p/18446744073709551616) (show 0<b by omega)
 have c:=A0u (p/18446744073709551616%b) (p%18446744073709551616) b r0 r1 (by omega) (by omega) hb'
 rw[e2,e3]at c
 unfold wR
 rw[<-e1]
 have h0:0<=p/18446744073709551616/\p/18446744073709551616<=18446744073709551615:=by omega
 generalize p/b%18446744073709551616=u at*
 generalize p%b=v at*
 generalize p%18446744073709551616=lo at*
 generalize p/18446744073709551616=hi at*
 refine Fo Tryz.func245 ?_
 repeat' first|refine WY ?_|refine Zdx ?_|refine Zbo ?_|refine Dw 13 ?_|refine V ?_|refine W2 ?_ ?_<;>intro hc
 all_goals exact D3 rfl rfl rfl rfl rfl rfl rfl
theorem K6(a b:Int)(ha:0<=a)(ha':a<18446744073709551616)(hb:0<=b)(hb':b<18446744073709551616):Fz 83 [uA a,uA b] (uA (Int.gcd a b:Nat)):=by
 obtain⟨a,rfl⟩:=a1z ha
 obtain⟨b,rfl⟩:=a1z hb
 exact Aik a b (by omega) (by omega)
theorem Hu(a b:Int)(ha:0<=a)(ha':a<18446744073709551616)(hb:0<=b)(hb':b<18446744073709551616):Fz 72 [uA a,uA b] (A0 (wR (a*b))):=by
 obtain⟨a,rfl⟩:=a1z ha
 obtain⟨b,rfl⟩:=a1z hb
 have:=A85 a b (by omega) (by omega)
 rwa[a3y]at this
theorem Cf{n:Int}(h:0<=n/\n<18446744073709551616):IntKind.u64.wrap n=n:=by rw[C7];omega
theorem A31(n d:Int):Fz 71 [A0 [.i n,.i d]] (.b (Dq n d)):=by
 by_cases h:1<=d/\d<=1152921504606846976/\ -1152921504606846976<=n/\n<=1152921504606846976
 ·obtain⟨h1,h2,h3,h4⟩:=h
  have c1:=Fu n (by omega) (by omega)
  have c2:=K6 n.natAbs d (by omega) (by omega) (by omega) (by omega)
  have e:Int.gcd (n.natAbs:Int) d=Int.gcd n d:=by simp[Int.gcd]
  rw[e]at c2
  have hv:Dq n d=decide ((Int.gcd n d:Nat)=(1:Int)):=by
   rw[a5z,validB_spec,decide_eq_true_iff]
   omega
  rw[hv]
  generalize Int.gcd n d=g at*
  have q1:d>=1:=h1
  have q2:n>= -1152921504606846976:=h3
  refine Fo Tryz.func71 ?_
  repeat' first|refine WY ?_|(apply p0j;exact rfl;exact Cf (by omega);exact rfl)|refine Da ?_|refine Dw 29 ?_|refine V ?_|refine W2 ?_ ?_<;>intro hc
  all_goals exact Dd rfl rfl rfl
 ·rw[X1 fun k=>h ⟨k.1,k.2.1,k.2.2.1,k.2.2.2.1⟩]
  refine Fo Tryz.func71 ?_
  repeat' first|refine WY ?_|(apply p0j;exact rfl;exact Cf (by omega);exact rfl)|refine Da ?_|refine Dw 29 ?_|refine V ?_|refine W2 ?_ ?_<;>intro hc
  all_goals first
   |exact Dd rfl rfl (congrArg Value.bool (by first|rfl|exact decide_eq_false (by omega)))
   |(exfalso;exact h ⟨by omega,by omega,by omega,by omega⟩)
theorem Fd{q:Rat}(h:Fits q):Fz 71 [A0 [.i q.num,.i q.den]] (.b true):=by
 have:=A31 q.num q.den
 rwa[h.valid]at this
abbrev big:AV:=.tup [A0 [.i 0,.i 0],.i 5]
def Bg(q:Rat):AV:=if Fits q then frE q 0 else big
theorem Fy{q:Rat}(h:Fits q):Bg q=frE q 0:=if_pos h
theorem W8{q:Rat}{neg:Bool}{n d:Int}(h0:0<=n)(hn:q.num=if neg then-n else n)(hd:(q.den:Int)=d):Bg q=sgO neg n d:=by
 have k:Fits q↔n<=1152921504606846976/\d<=1152921504606846976:=by
  unfold Fits
  rw[hn]
  cases neg<;>simp<;>omega
 unfold Bg sgO
 by_cases h:Fits q
 ·rw[if_pos h,if_pos (k.1 h),<-hn,<-hd]
 ·rw[if_neg h,if_neg fun q=>h (k.2 q)]
theorem A34(neg:Bool)(n d:Int):∃u v e:Int,sgO neg n d=.tup [A0 [.i u,.i v],.i e]:=by
 unfold sgO
 split
 ·exact⟨_,_,_,rfl⟩
 ·exact⟨_,_,_,rfl⟩
theorem C4(a b:Int)(h0:0<=a)(h1:a<=1152921504606846976)(h2:0<=b)(h3:b<=1152921504606846976):0<=a*b/\a*b<=1329227995784915872903807060280344576:=by
 refine⟨a2c h0 h2,?_⟩
 have:=a3w h1 h3 h2 (by omega)
 omega
/-! ### Two words are compared -/
class HasEqW(P:Program)(t:TypeId):Prop where
 out:∀(o:Oper)(η:Operand->Value)(w:World)(x y:Operand)(u:TypeId)(a b c d:Int),o.op=.binOp .eql t x y u->η x=.agg #[.int .u64 a,.int .u64 b]->η y=.agg #[.int .u64 c,.int .u64 d]->(execOp η o).run P w=.ok (.value (.bool (decide (a=c/\b=d)))) w
section
variable {P:Program}{N:Nat}{ops:Array Oper}{m:Option Nat}{K:Tm->AH->Prop}{tm:Tm}{H:AH}{rest:List Oper}{ty:TypeId}{pos:String}{af:Array Edge}{d:Nat}{t:TypeId}{x y:Operand}
theorem p2r{u:TypeId}{a b c e':Int}[he:HasEqW P t](hx:evT tm x=some (.agg [.val (.int .u64 a),.val (.int .u64 b)]))(hy:evT tm y=some (.agg [.val (.int .u64 c),.val (.int .u64 e')]))(hN:LN d N)(h:Reg m P N ops rest ((d,.val (.bool (decide (a=c/\b=e'))))::tm) H K):Reg m P N ops (⟨some d,.binOp .eql t x y u,ty,pos,af,none⟩::rest) tm H K:=by
 refine S.val (OpV.mk fun L w ρ η hη hH=>?_) hN h
 have h1:=(hη x (by simp[Op.operands]) _ hx).flat (u:=.agg #[.int .u64 a,.int .u64 b]) rfl
 have h2:=(hη y (by simp[Op.operands]) _ hy).flat (u:=.agg #[.int .u64 c,.int .u64 e']) rfl
 exact⟨_,he.out _ η w x y u a b c e' rfl h1 h2,Ab _⟩
end
set_option maxRecDepth 100000 in
theorem X2:Tryz.prog.fieldsOf 164= #[⟨"hi",142,0,false, "", "loftblock/ratio",0⟩,⟨"lo",142,1,false, "", "loftblock/ratio",8⟩]:=by
 unfold Program.fieldsOf
 rw[a7a]
theorem Acq:Tryz.prog.stoodInHeld 164=false:=by kernel_rfl
theorem Acp:Tryz.prog.eqGuardType Tryz.prog.depth 164=false:=by kernel_rfl
theorem Aiq:Tryz.prog.underlying 164=some (.struct (Tryz.prog.fieldsOf 164)):=by
 rw[X2];exact a7a
set_option maxRecDepth 100000 in
instance :HasEqW Tryz.prog 164:=⟨fun o η w x y u a b c d ho hx hy=>by
 have h1:=fun d' (k:IntKind)(a b:Int)=>run_equalIn_int (P:=Tryz.prog) w d' 142 k .u64 a b a8b
 have h2:=run_equalIn_agg (P:=Tryz.prog) w 9999 164 #[.int .u64 a,.int .u64 b] #[.int .u64 c,.int .u64 d] Aiq Acq
 have h3:=run_eqGuard_agg (P:=Tryz.prog) w .eql 164 x y #[.int .u64 a,.int .u64 b] #[.int .u64 c,.int .u64 d] Acp
 have h4:=run_eql_struct (P:=Tryz.prog) w 164 #[.int .u64 a,.int .u64 b] #[.int .u64 c,.int .u64 d]
 rw[X2]at h2
 simp only[execOp,ho,hx,hy,a0t,h3,a0o,h4]
 rw[h2]
 simp[Op.eqFields,go_sem,h1]
 by_cases e1:a=c<;>by_cases e2:b=d<;>simp[*]⟩
theorem A2f(an bn bG aG:Int)(hb:0<=bG)(ha:0<=aG):∃(N:Int)(neg:Bool),an*bG+bn*aG=(if neg then-N else N)/\0<=N/\N<=(an.natAbs:Int)*bG+(bn.natAbs:Int)*aG/\
  ((decide (an<0)=neg/\decide (bn<0)=neg/\(an.natAbs:Int)*bG+(bn.natAbs:Int)*aG=N)\/
   (decide (an<0)=(!neg)/\decide (bn<0)=neg/\(an.natAbs:Int)*bG<(bn.natAbs:Int)*aG/\(bn.natAbs:Int)*aG-(an.natAbs:Int)*bG=N)\/
   (decide (an<0)=neg/\decide (bn<0)=(!neg)/\¬(an.natAbs:Int)*bG<(bn.natAbs:Int)*aG/\(an.natAbs:Int)*bG-(bn.natAbs:Int)*aG=N)):=by
 have x0:0<=(an.natAbs:Int)*bG:=a2c (by omega) hb
 have y0:0<=(bn.natAbs:Int)*aG:=a2c (by omega) ha
 have e1:an*bG=if an<0 then-((an.natAbs:Int)*bG)else(an.natAbs:Int)*bG:=by
  split
  ·rw[<-a4n];congr 1;omega
  ·congr 1;omega
 have e2:bn*aG=if bn<0 then-((bn.natAbs:Int)*aG)else(bn.natAbs:Int)*aG:=by
  split
  ·rw[<-a4n];congr 1;omega
  ·congr 1;omega
 rw[e1,e2]
 generalize(an.natAbs:Int)*bG=x at*
 generalize(bn.natAbs:Int)*aG=y at*
 clear e1 e2
 by_cases h1:an<0<;>by_cases h2:bn<0<;>simp only[h1,h2,if_true,if_false,decide_true,decide_false]
 ·exact⟨x+y,true,by simp;omega,by omega,by omega,.inl ⟨rfl,rfl,rfl⟩⟩
 ·by_cases h3:x<y
  ·exact⟨y-x,false,by simp;omega,by omega,by omega,.inr (.inl ⟨rfl,rfl,h3,rfl⟩)⟩
  ·exact⟨x-y,true,by simp;omega,by omega,by omega,.inr (.inr ⟨rfl,rfl,h3,rfl⟩)⟩
 ·by_cases h3:x<y
  ·exact⟨y-x,true,by simp;omega,by omega,by omega,.inr (.inl ⟨rfl,rfl,h3,rfl⟩)⟩
  ·exact⟨x-y,false,by simp;omega,by omega,by omega,.inr (.inr ⟨rfl,rfl,h3,rfl⟩)⟩
 ·exact⟨x+y,false,by simp,by omega,by omega,.inl ⟨rfl,rfl,rfl⟩⟩
theorem A8r(p q:Rat)(hp:Fits p)(hq:Fits q)(an ad bn bd G bG aG X Z N R C NC bC D:Int)(neg:Bool)(r:AV)(ep:frR p=[.i an,.i ad])(eq':frR q=[.i bn,.i bd])
  (a1:1<=ad) (a2:ad<=1152921504606846976) (a3: -1152921504606846976<=an) (a4:an<=1152921504606846976) (b1:1<=bd) (b2:bd<=1152921504606846976) (b3: -1152921504606846976<=bn) (b4:bn<=1152921504606846976)
  (hG:(Int.gcd ad bd:Nat)=G) (g1:1<=G) (g2:G<=ad) (hbG:bd/G=bG) (haG:ad/G=aG) (bG0:1<=bG) (aG0:1<=aG) (bG1:bG<=bd) (aG1:aG<=ad) (hX:(an.natAbs:Int)*bG=X) (hZ:(bn.natAbs:Int)*aG=Z)
  (hpath:(decide (an<0)=neg/\decide (bn<0)=neg/\X+Z=N)\/(decide (an<0)=(!neg)/\decide (bn<0)=neg/\X<Z/\Z-X=N)\/(decide (an<0)=neg/\decide (bn<0)=(!neg)/\¬X<Z/\X-Z=N))
  (hN:1<=N) (hR:N%G=R) (r0:0<=R) (r1:R<G) (hC:(Int.gcd G R:Nat)=C) (c1:1<=C) (c2:C<=G) (hNC:N/C=NC) (n0:0<=NC) (n1:NC<=N) (hbC:bd/C=bC) (bC0:1<=bC) (bC1:bC<=bd) (hD:aG*bC=D) (d0:0<=D) (d1:D<=1329227995784915872903807060280344576)
  (hr:r=sgO neg NC D):Fz 177 [A0 (frR p),A0 (frR q)] r:=by
 have v1:=Fd hp
 have v2:=Fd hq
 change Fn0 _ _ [A0 (frR p)] _ at v1
 change Fn0 _ _ [A0 (frR q)] _ at v2
 rw[ep]at v1⊢
 rw[eq']at v2⊢
 have x12:=C4 (an.natAbs:Int) bG (by omega) (by omega) (by omega) (by omega)
 have y12:=C4 (bn.natAbs:Int) aG (by omega) (by omega) (by omega) (by omega)
 rw[hX]at x12
 rw[hZ]at y12
 have cg:=K6 ad bd (by omega) (by omega) (by omega) (by omega)
 rw[hG]at cg
 have cs1:=Fu an (by omega) (by omega)
 have cs2:=Fu bn (by omega) (by omega)
 have cp1:=Hu (an.natAbs:Int) bG (by omega) (by omega) (by omega) (by omega)
 have cp2:=Hu (bn.natAbs:Int) aG (by omega) (by omega) (by omega) (by omega)
 rw[hX,<-hbG]at cp1
 rw[hZ,<-haG]at cp2
 have co1:=A6b N G (by omega) (by omega) (by omega) (by omega)
 have co2:=A6b N C (by omega) (by omega) (by omega) (by omega)
 have cg2:=K6 G R (by omega) (by omega) (by omega) (by omega)
 have cp3:=Hu aG bC (by omega) (by omega) (by omega) (by omega)
 rw[hR]at co1
 rw[hC]at cg2
 rw[hNC]at co2
 rw[hD,<-hbC,<-haG]at cp3
 have cls:=Su X Z (by omega) (by omega)
 have cpl:=A6c X Z (by omega) (by omega) (by omega)
 have hnz:¬(N/18446744073709551616=0/\N%18446744073709551616=0):=by omega
 obtain⟨u,v,e,hu⟩:=A34 neg NC D
 have hbig:(0<NC/18446744073709551616\/0<D/18446744073709551616)->u=0/\v=0/\e=5:=fun h=>by
  rw[sgO,if_neg (by omega)]at hu
  simp only[AV.tup.injEq,a8q,A0,a2g,a6o,AV.agg.injEq,AV.lf.injEq,Lf.val.injEq,Value.int.injEq,true_and,and_true]at hu
  omega
 have csg:¬0<NC/18446744073709551616->¬0<D/18446744073709551616->Fz 84 [.b neg,uA (NC%18446744073709551616),uA (D%18446744073709551616)] (.tup [A0 [.i u,.i v],.i e]):=fun h1 h2=>by
  have:=Nb neg NC D (by omega) (by omega)
  rw[show NC%18446744073709551616=NC by omega,show D%18446744073709551616=D by omega,<-hu]
  exact this
 rw[hr,hu]
 clear hr hu
 rcases hpath with⟨s1,s2,hn⟩|⟨s1,s2,hlt,hn⟩|⟨s1,s2,hlt,hn⟩
 ·have hbq:(decide (an<0)==decide (bn<0))=true:=by rw[s1,s2];exact beq_self_eq_true _
  rw[hn]at cpl
  rw[<-s1]at csg
  refine Fo a8w ?_
  repeat' first|refine WY ?_|(apply p0j;exact rfl;exact Cf (by omega);exact rfl)|refine Zbo ?_|(apply p2r;(iterate 3 exact rfl))|refine Zbf hbq ?_|refine Zbg hbq ?_|refine Da ?_|refine Dw 22 ?_|refine Dw 13 ?_|(apply S.call;exact rfl;exact rfl;apply csg;assumption;assumption;exact rfl)|refine V ?_|refine W2 ?_ ?_<;>intro hc
  all_goals first
   |(have hz:=hbig (.inl hc);obtain⟨rfl,rfl,rfl⟩:=hz;exact D3 rfl rfl rfl rfl rfl rfl rfl)
   |(have hz:=hbig (.inr hc);obtain⟨rfl,rfl,rfl⟩:=hz;exact D3 rfl rfl rfl rfl rfl rfl rfl)
   |(exact D3 rfl rfl rfl rfl rfl rfl rfl)
 ·have hbq:(decide (an<0)==decide (bn<0))=false:=by rw[s1,s2];cases neg<;>rfl
  have cmi:=Uu Z X (by omega) (by omega) (by omega)
  rw[hn]at cmi
  rw[decide_eq_true hlt]at cls
  rw[show neg=decide (¬an<0) by rw[decide_not,s1,Bool.not_not]]at csg
  refine Fo a8w ?_
  repeat' first|refine WY ?_|(apply p0j;exact rfl;exact Cf (by omega);exact rfl)|refine Zbo ?_|(apply p2r;(iterate 3 exact rfl))|refine Zbf hbq ?_|refine Zbg hbq ?_|refine Da ?_|refine Dw 22 ?_|refine Dw 13 ?_|(apply S.call;exact rfl;exact rfl;apply csg;assumption;assumption;exact rfl)|refine V ?_|refine W2 ?_ ?_<;>intro hc
  all_goals first
   |(have hz:=hbig (.inl hc);obtain⟨rfl,rfl,rfl⟩:=hz;exact D3 rfl rfl rfl rfl rfl rfl rfl)
   |(have hz:=hbig (.inr hc);obtain⟨rfl,rfl,rfl⟩:=hz;exact D3 rfl rfl rfl rfl rfl rfl rfl)
   |(exact D3 rfl rfl rfl rfl rfl rfl rfl)
 ·have hbq:(decide (an<0)==decide (bn<0))=false:=by rw[s1,s2];cases neg<;>rfl
  have cmi:=Uu X Z (by omega) (by omega) (by omega)
  rw[hn]at cmi
  rw[decide_eq_false hlt]at cls
  rw[<-s1]at csg
  refine Fo a8w ?_
  repeat' first|refine WY ?_|(apply p0j;exact rfl;exact Cf (by omega);exact rfl)|refine Zbo ?_|(apply p2r;(iterate 3 exact rfl))|refine Zbf hbq ?_|refine Zbg hbq ?_|refine Da ?_|refine Dw 22 ?_|refine Dw 13 ?_|(apply S.call;exact rfl;exact rfl;apply csg;assumption;assumption;exact rfl)|refine V ?_|refine W2 ?_ ?_<;>intro hc
  all_goals first
   |(have hz:=hbig (.inl hc);obtain⟨rfl,rfl,rfl⟩:=hz;exact D3 rfl rfl rfl rfl rfl rfl rfl)
   |(have hz:=hbig (.inr hc);obtain⟨rfl,rfl,rfl⟩:=hz;exact D3 rfl rfl rfl rfl rfl rfl rfl)
   |(exact D3 rfl rfl rfl rfl rfl rfl rfl)
theorem Afr(p q:Rat)(hp:Fits p)(hq:Fits q)(an ad bn bd G bG aG X Z:Int)(ep:frR p=[.i an,.i ad])(eq':frR q=[.i bn,.i bd])
  (a1:1<=ad) (a2:ad<=1152921504606846976) (a3: -1152921504606846976<=an) (a4:an<=1152921504606846976) (b1:1<=bd) (b2:bd<=1152921504606846976) (b3: -1152921504606846976<=bn) (b4:bn<=1152921504606846976)
  (hG:(Int.gcd ad bd:Nat)=G) (g1:1<=G) (hbG:bd/G=bG) (haG:ad/G=aG) (bG0:1<=bG) (aG0:1<=aG) (bG1:bG<=bd) (aG1:aG<=ad) (hX:(an.natAbs:Int)*bG=X) (hZ:(bn.natAbs:Int)*aG=Z)
  (hpath:(decide (an<0)=decide (bn<0)/\X+Z=0)\/(¬decide (an<0)=decide (bn<0)/\¬X<Z/\X-Z=0)):Fz 177 [A0 (frR p),A0 (frR q)] (.tup [A0 [.i 0,.i 1],.i 0]):=by
 have v1:=Fd hp
 have v2:=Fd hq
 change Fn0 _ _ [A0 (frR p)] _ at v1
 change Fn0 _ _ [A0 (frR q)] _ at v2
 rw[ep]at v1⊢
 rw[eq']at v2⊢
 have x12:=C4 (an.natAbs:Int) bG (by omega) (by omega) (by omega) (by omega)
 have y12:=C4 (bn.natAbs:Int) aG (by omega) (by omega) (by omega) (by omega)
 rw[hX]at x12
 rw[hZ]at y12
 have cg:=K6 ad bd (by omega) (by omega) (by omega) (by omega)
 rw[hG]at cg
 have cs1:=Fu an (by omega) (by omega)
 have cs2:=Fu bn (by omega) (by omega)
 have cp1:=Hu (an.natAbs:Int) bG (by omega) (by omega) (by omega) (by omega)
 have cp2:=Hu (bn.natAbs:Int) aG (by omega) (by omega) (by omega) (by omega)
 rw[hX,<-hbG]at cp1
 rw[hZ,<-haG]at cp2
 have cls:=Su X Z (by omega) (by omega)
 have hnz:(0:Int)/18446744073709551616=0/\(0:Int)%18446744073709551616=0:=⟨rfl,rfl⟩
 rcases hpath with⟨s1,hn⟩|⟨s1,hlt,hn⟩
 ·have hbq:(decide (an<0)==decide (bn<0))=true:=by rw[s1];exact beq_self_eq_true _
  have cpl:=A6c X Z (by omega) (by omega) (by omega)
  rw[hn]at cpl
  refine Fo a8w ?_
  repeat' first|refine WY ?_|(apply p0j;exact rfl;exact Cf (by omega);exact rfl)|refine Zbo ?_|(apply p2r;(iterate 3 exact rfl))|refine Zbf hbq ?_|refine Zbg hbq ?_|refine Da ?_|refine Dw 22 ?_|refine Dw 13 ?_|(apply S.call;exact rfl;exact rfl;apply csg;assumption;assumption;exact rfl)|refine V ?_|refine W2 ?_ ?_<;>intro hc
  all_goals exact D3 rfl rfl rfl rfl rfl rfl rfl
 ·have hbq:(decide (an<0)==decide (bn<0))=false:=beq_eq_false_iff_ne.2 s1
  have cmi:=Uu X Z (by omega) (by omega) (by omega)
  rw[hn]at cmi
  rw[decide_eq_false hlt]at cls
  refine Fo a8w ?_
  repeat' first|refine WY ?_|(apply p0j;exact rfl;exact Cf (by omega);exact rfl)|refine Zbo ?_|(apply p2r;(iterate 3 exact rfl))|refine Zbf hbq ?_|refine Zbg hbq ?_|refine Da ?_|refine Dw 22 ?_|refine Dw 13 ?_|(apply S.call;exact rfl;exact rfl;apply csg;assumption;assumption;exact rfl)|refine V ?_|refine W2 ?_ ?_<;>intro hc
  all_goals exact D3 rfl rfl rfl rfl rfl rfl rfl
theorem A2z(p q:Rat)(hp:Fits p)(hq:Fits q):Fz 177 [A0 (frR p),A0 (frR q)] (Bg (p+q)):=by
 obtain⟨a1,a2,a3,a4,_⟩:=validB_spec.1 hp.valid
 obtain⟨b1,b2,b3,b4,_⟩:=validB_spec.1 hq.valid
 obtain⟨p1,p2⟩:=A8s p q _ _ _ rfl rfl rfl
 have gp:0<p.den.gcd q.den:=b1n _ p.den_pos
 have ga:p.den.gcd q.den∣p.den:=b0j ..
 have gb:p.den.gcd q.den∣q.den:=a8g ..
 have hG:((Int.gcd p.den q.den:Nat):Int)=(p.den.gcd q.den:Nat):=by simp[Int.gcd]
 have gl:p.den.gcd q.den<=p.den:=a9i p.den_pos ga
 have aG0:1<=p.den/p.den.gcd q.den:=b2z gl gp
 have bG0:1<=q.den/p.den.gcd q.den:=b2z (a9i q.den_pos gb) gp
 have aG1:p.den/p.den.gcd q.den<=p.den:=a6c ..
 have bG1:q.den/p.den.gcd q.den<=q.den:=a6c ..
 generalize hg:p.den.gcd q.den=g at*
 obtain⟨N,neg,hs,n0,nle,hpath⟩:=A2f p.num q.num ((q.den/g:Nat):Int) ((p.den/g:Nat):Int) (by omega) (by omega)
 rw[hs]at p1 p2
 have ebG:(q.den:Int)/(g:Int)=((q.den/g:Nat):Int):=by simp
 have eaG:(p.den:Int)/(g:Int)=((p.den/g:Nat):Int):=by simp
 by_cases hN:N=0
 ·subst hN
  have hz:p+q=0:=by
   rw[<-a6f,p1];cases neg<;>simp
  rw[hz,show Bg 0=.tup [A0 [.i 0,.i 1],.i 0]from rfl]
  refine Afr p q hp hq p.num p.den q.num q.den g _ _ _ _ rfl rfl a1 a2 a3 a4 b1 b2 b3 b4 hG (by omega) ebG eaG (by omega) (by omega) (by omega) (by omega) rfl rfl ?_
  rcases hpath with⟨s1,s2,hn⟩|⟨s1,s2,hlt,hn⟩|⟨s1,s2,hlt,hn⟩
  ·exact .inl ⟨by rw[s1,s2],hn⟩
  ·omega
  ·exact .inr ⟨by rw[s1,s2];cases neg<;>decide,hlt,hn⟩
 ·have hna:(if neg=true then-N else N).natAbs=N.natAbs:=by cases neg<;>simp
  rw[hna]at p1 p2
  have hCN:Int.gcd (g:Int) (N%(g:Int))=N.natAbs.gcd g:=by
   rw[A9x N g];simp[Int.gcd]
  have cg:N.natAbs.gcd g∣g:=a8g ..
  have cN:N.natAbs.gcd g∣N.natAbs:=b0j ..
  have cp:0<N.natAbs.gcd g:=b1z cg (by omega)
  have cle:N.natAbs.gcd g<=g:=a9i (by omega) cg
  have cbd:N.natAbs.gcd g∣q.den:=Nat.dvd_trans cg gb
  generalize hc:N.natAbs.gcd g=c at*
  have cN':(c:Int)∣N:=by rw[<-Int.dvd_natAbs];exact Int.ofNat_dvd.2 cN
  have p1':(p+q).num=if neg then-(N/c)else N/c:=by
   rw[p1];cases neg<;>simp[b2t cN']
  have bC1:q.den/c<=q.den:=a6c ..
  have bC0:1<=q.den/c:=b2z (a9i q.den_pos cbd) cp
  have D12:=C4 ((p.den/g:Nat):Int) ((q.den/c:Nat):Int) (by omega) (by omega) (by omega) (by omega)
  have nc0:0<=N/(c:Int):=a1y n0 (by omega)
  have nc1:N/(c:Int)<=N:=a2q _ n0
  have pd:((p+q).den:Int)=((p.den/g:Nat):Int)*((q.den/c:Nat):Int):=by rw[p2,a3y]
  exact A8r p q hp hq p.num p.den q.num q.den g _ _ _ _ N _ c _ _ _ neg _ rfl rfl a1 a2 a3 a4 b1 b2 b3 b4 hG (by omega) (by omega) ebG eaG (by omega) (by omega) (by omega) (by omega) rfl rfl hpath (by omega) rfl (a4v _ (by omega)) (a5d _ (by omega)) (by rw[hCN]) (by omega) (by omega) rfl nc0 nc1 (show(q.den:Int)/(c:Int)=((q.den/c:Nat):Int) by simp) (by omega) (by omega) rfl D12.1 D12.2 (W8 nc0 p1' pd)
theorem Lw(q:Rat):∃u v e:Int,Bg q=.tup [A0 [.i u,.i v],.i e]:=by
 unfold Bg
 split
 ·exact⟨_,_,_,rfl⟩
 ·exact⟨_,_,_,rfl⟩
abbrev Du(a b:Int):Bool:=decide (a<0) !=decide (b<0)
theorem Af8(an bn:Int)(g h:Nat):an.tdiv g*bn.tdiv h=(if Du an bn then-(((an.natAbs/g:Nat):Int)*((bn.natAbs/h:Nat):Int))else((an.natAbs/g:Nat):Int)*((bn.natAbs/h:Nat):Int)):=by
 rw[Wy,Wy]
 by_cases h1:an<0<;>by_cases h2:bn<0<;>simp[h1,h2,a4n,Int.mul_neg]
theorem Aad(p q:Rat)(hp:Fits p)(hq:Fits q)(an ad bn bd G K a b c d NC D:Int)(r:AV)(ep:frR p=[.i an,.i ad])(eq':frR q=[.i bn,.i bd])
  (a1:1<=ad) (a2:ad<=1152921504606846976) (a3: -1152921504606846976<=an) (a4:an<=1152921504606846976) (b1:1<=bd) (b2:bd<=1152921504606846976) (b3: -1152921504606846976<=bn) (b4:bn<=1152921504606846976)
  (hG:(Int.gcd (an.natAbs:Int) bd:Nat)=G) (g1:1<=G) (hK:(Int.gcd (bn.natAbs:Int) ad:Nat)=K) (k1:1<=K) (ha:(an.natAbs:Int)/G=a) (hb:(bn.natAbs:Int)/K=b) (hc:ad/K=c) (hd:bd/G=d)
  (a0:0<=a/\a<=1152921504606846976) (b0:0<=b/\b<=1152921504606846976) (c0:0<=c/\c<=1152921504606846976) (d0:0<=d/\d<=1152921504606846976) (hN:a*b=NC) (hD:c*d=D) (hr:r=sgO (Du an bn) NC D):Fz 110 [A0 (frR p),A0 (frR q)] r:=by
 have v1:=Fd hp
 have v2:=Fd hq
 change Fn0 _ _ [A0 (frR p)] _ at v1
 change Fn0 _ _ [A0 (frR q)] _ at v2
 rw[ep]at v1⊢
 rw[eq']at v2⊢
 have cs1:=Fu an (by omega) (by omega)
 have cs2:=Fu bn (by omega) (by omega)
 have cg1:=K6 an.natAbs bd (by omega) (by omega) (by omega) (by omega)
 have cg2:=K6 bn.natAbs ad (by omega) (by omega) (by omega) (by omega)
 rw[hG]at cg1
 rw[hK]at cg2
 have cp1:=Hu a b (by omega) (by omega) (by omega) (by omega)
 have cp2:=Hu c d (by omega) (by omega) (by omega) (by omega)
 have x1:=C4 a b a0.1 a0.2 b0.1 b0.2
 have x2:=C4 c d c0.1 c0.2 d0.1 d0.2
 rw[hN]at cp1 x1
 rw[hD]at cp2 x2
 rw[<-ha,<-hb]at cp1
 rw[<-hc,<-hd]at cp2
 obtain⟨u,v,e,hu⟩:=A34 (Du an bn) NC D
 have hbig:(0<NC/18446744073709551616\/0<D/18446744073709551616)->u=0/\v=0/\e=5:=fun h=>by
  rw[sgO,if_neg (by omega)]at hu
  simp only[AV.tup.injEq,a8q,A0,a2g,a6o,AV.agg.injEq,AV.lf.injEq,Lf.val.injEq,Value.int.injEq,true_and,and_true]at hu
  omega
 have hbq:(decide (an<0) !=decide (bn<0))=Du an bn:=rfl
 rw[hr]
 by_cases hz:NC=0
 ·subst hz
  have n1:¬0<(0:Int)/18446744073709551616:=by decide
  have n2:¬0<(0:Int)%18446744073709551616:=by decide
  have csg:¬0<(0:Int)/18446744073709551616->¬0<D/18446744073709551616->Fz 84 [.b false,uA (0%18446744073709551616),uA (D%18446744073709551616)] (.tup [A0 [.i u,.i v],.i e]):=fun h1 h2=>by
   have:=Nb false 0 D (by omega) (by omega)
   rw[show(0:Int)%18446744073709551616=0 by omega,show D%18446744073709551616=D by omega,<-hu,show sgO (Du an bn) 0 D=sgO false 0 D by unfold sgO;cases Du an bn<;>rfl]
   exact this
  rw[hu]
  refine Fo Tryz.func110 ?_
  repeat' first|refine WY ?_|(apply p0j;exact rfl;exact Cf (by omega);exact rfl)|refine Zbo ?_|refine Zbf hbq ?_|refine Zbg hbq ?_|refine Da ?_|refine Dw 16 ?_|refine Dw 26 ?_|(apply S.call;exact rfl;exact rfl;apply csg;assumption;assumption;exact rfl)|refine V ?_|refine W2 ?_ ?_<;>intro hc
  all_goals first
   |(have hz:=hbig (.inl hc);obtain⟨rfl,rfl,rfl⟩:=hz;exact D3 rfl rfl rfl rfl rfl rfl rfl)
   |(have hz:=hbig (.inr hc);obtain⟨rfl,rfl,rfl⟩:=hz;exact D3 rfl rfl rfl rfl rfl rfl rfl)
   |(exact D3 rfl rfl rfl rfl rfl rfl rfl)
   |(exfalso;omega)
 ·have csg:¬0<NC/18446744073709551616->¬0<D/18446744073709551616->Fz 84 [.b (Du an bn),uA (NC%18446744073709551616),uA (D%18446744073709551616)] (.tup [A0 [.i u,.i v],.i e]):=fun h1 h2=>by
   have:=Nb (Du an bn) NC D (by omega) (by omega)
   rw[show NC%18446744073709551616=NC by omega,show D%18446744073709551616=D by omega,<-hu]
   exact this
  rw[hu]
  generalize Du an bn=nb at*
  refine Fo Tryz.func110 ?_
  repeat' first|refine WY ?_|(apply p0j;exact rfl;exact Cf (by omega);exact rfl)|refine Zbo ?_|refine Zbf hbq ?_|refine Zbg hbq ?_|refine Da ?_|refine Dw 16 ?_|refine Dw 26 ?_|(apply S.call;exact rfl;exact rfl;apply csg;assumption;assumption;exact rfl)|refine V ?_|refine W2 ?_ ?_<;>intro hc
  all_goals first
   |(have hz:=hbig (.inl hc);obtain⟨rfl,rfl,rfl⟩:=hz;exact D3 rfl rfl rfl rfl rfl rfl rfl)
   |(have hz:=hbig (.inr hc);obtain⟨rfl,rfl,rfl⟩:=hz;exact D3 rfl rfl rfl rfl rfl rfl rfl)
   |(exact D3 rfl rfl rfl rfl rfl rfl rfl)
   |(exfalso;omega)
theorem A30(p q:Rat)(hp:Fits p)(hq:Fits q):Fz 110 [A0 (frR p),A0 (frR q)] (Bg (p*q)):=by
 obtain⟨a1,a2,a3,a4,_⟩:=validB_spec.1 hp.valid
 obtain⟨b1,b2,b3,b4,_⟩:=validB_spec.1 hq.valid
 obtain⟨p1,p2⟩:=Aaf p q _ _ rfl rfl
 have hG:Int.gcd (p.num.natAbs:Int) q.den=p.num.natAbs.gcd q.den:=by simp[Int.gcd]
 have hH:Int.gcd (q.num.natAbs:Int) p.den=q.num.natAbs.gcd p.den:=by simp[Int.gcd]
 have gp:0<p.num.natAbs.gcd q.den:=b1k _ q.den_pos
 have kp:0<q.num.natAbs.gcd p.den:=b1k _ p.den_pos
 generalize p.num.natAbs.gcd q.den=g at*
 generalize q.num.natAbs.gcd p.den=h at*
 rw[Af8]at p1
 have pl:p.num.natAbs/g<=p.num.natAbs:=a6c ..
 have ql:q.num.natAbs/h<=q.num.natAbs:=a6c ..
 have rl:p.den/h<=p.den:=a6c ..
 have tl:q.den/g<=q.den:=a6c ..
 have pd:((p*q).den:Int)=((p.den/h:Nat):Int)*((q.den/g:Nat):Int):=by rw[p2,a3y]
 have n0:0<=((p.num.natAbs/g:Nat):Int)*((q.num.natAbs/h:Nat):Int):=a2c (a4j _) (a4j _)
 exact Aad p q hp hq p.num p.den q.num q.den g h _ _ _ _ _ _ _ rfl rfl a1 a2 a3 a4 b1 b2 b3 b4 (by rw[hG]) (by omega) (by rw[hH]) (by omega) rfl rfl rfl rfl
  ⟨a4j _,by omega⟩ ⟨a4j _,by omega⟩ ⟨a4j _,by omega⟩ ⟨a4j _,by omega⟩ rfl rfl (W8 n0 p1 pd)
theorem Ac1(p q:Rat)(hp:Fits p)(hq:Fits q):Fz 96 [A0 (frR p),A0 (frR q)] (Bg (p-q)):=by
 have hn:Fits (-q):=by unfold Fits at*;rw[show(-q).num= -q.num from rfl,show(-q).den=q.den from rfl];omega
 have v1:=Fd hp
 have v2:=Fd hq
 have c:=A2z p (-q) hp hn
 unfold frR at c
 rw[show(-q).num= -q.num from rfl,show(-q).den=q.den from rfl,<-a4l]at c
 obtain⟨u,v,e,hu⟩:=Lw (p-q)
 rw[hu]at c⊢
 have:=hq.1
 refine Fo Tryz.func96 ?_
 repeat' first|refine WY ?_|refine Zd2 ?_|refine V ?_|refine W2 ?_ ?_<;>intro hc
 all_goals exact D3 rfl rfl rfl rfl rfl rfl rfl
theorem Aij(p q:Rat)(hp:Fits p)(hq:Fits q)(h0:q≠0):Fz 150 [A0 (frR p),A0 (frR q)] (Bg (p/q)):=by
 have v1:=Fd hp
 have v2:=Fd hq
 have n0:q.num≠0:=fun h=>h0 (a6f.1 h)
 obtain⟨i1,i2⟩:=A8o hq.valid n0
 rw[F9]at i2
 obtain⟨i3,i4⟩:=Ll i1
 rw[i2]at i3 i4
 obtain⟨b1,b2,b3,b4,_⟩:=validB_spec.1 i1
 have fi:Fits q⁻¹:=by unfold Fits;rw[i3];constructor<;>omega
 have c:=A30 p q⁻¹ hp fi
 unfold frR at c
 rw[i3,i4,<-b0s]at c
 obtain⟨u,v,e,hu⟩:=Lw (p/q)
 rw[hu]at c⊢
 have hb:=hq.1
 have hb2:=hq.2
 by_cases hn:q.num<0
 ·rw[if_pos hn,show((q.num.natAbs:Nat):Int)= -q.num by omega]at c
  refine Fo Tryz.func150 ?_
  repeat' first|refine WY ?_|refine Zd2 ?_|refine V ?_|refine W2 ?_ ?_<;>intro hc
  all_goals exact D3 rfl rfl rfl rfl rfl rfl rfl
 ·rw[if_neg hn,show((q.num.natAbs:Nat):Int)=q.num by omega]at c
  refine Fo Tryz.func150 ?_
  repeat' first|refine WY ?_|refine Zd2 ?_|refine V ?_|refine W2 ?_ ?_<;>intro hc
  all_goals exact D3 rfl rfl rfl rfl rfl rfl rfl
theorem Aii(p q:Rat)(hp:Fits p)(hq:Fits q):Fz 39 [A0 (frR p),A0 (frR q)] (.tup [.i (Ay p q),.i 0]):=by
 have v1:=Fd hp
 have v2:=Fd hq
 obtain⟨a1,a2,a3,a4,_⟩:=validB_spec.1 hp.valid
 obtain⟨b1,b2,b3,b4,_⟩:=validB_spec.1 hq.valid
 have l1:p<q↔p.num*q.den<q.num*p.den:=Rat.lt_iff ..
 have l2:q<p↔q.num*p.den<p.num*q.den:=Rat.lt_iff ..
 have x:=C4 (p.num.natAbs:Int) q.den (by omega) (by omega) (by omega) (by omega)
 have z:=C4 (q.num.natAbs:Int) p.den (by omega) (by omega) (by omega) (by omega)
 have cs1:=Fu p.num (by omega) (by omega)
 have cs2:=Fu q.num (by omega) (by omega)
 have cp1:=Hu (p.num.natAbs:Int) q.den (by omega) (by omega) (by omega) (by omega)
 have cp2:=Hu (q.num.natAbs:Int) p.den (by omega) (by omega) (by omega) (by omega)
 have e1:p.num*q.den=if p.num<0 then-((p.num.natAbs:Int)*q.den)else(p.num.natAbs:Int)*q.den:=by
  split
  ·rw[<-a4n];congr 1;omega
  ·congr 1;omega
 have e2:q.num*p.den=if q.num<0 then-((q.num.natAbs:Int)*p.den)else(q.num.natAbs:Int)*p.den:=by
  split
  ·rw[<-a4n];congr 1;omega
  ·congr 1;omega
 have z1:p.num≠0->0<(p.num.natAbs:Int)*q.den:=fun h=>a3s (by omega) (by omega)
 have z2:q.num≠0->0<(q.num.natAbs:Int)*p.den:=fun h=>a3s (by omega) (by omega)
 have hcm:Ay p q=if p.num*q.den<q.num*p.den then-1 else if q.num*p.den<p.num*q.den then 1 else 0:=by unfold Ay;simp only[l1,l2]
 rw[hcm,e1,e2]
 unfold frR
 generalize(p.num.natAbs:Int)*q.den=X at*
 generalize(q.num.natAbs:Int)*p.den=Z at*
 have cl1:=Su X Z (by omega) (by omega)
 have cl2:=Su Z X (by omega) (by omega)
 clear hcm e1 e2 l1 l2
 generalize p.num=an at*
 generalize q.num=bn at*
 by_cases h1:an<0<;>by_cases h2:bn<0<;>(try rw[if_pos h1])<;>(try rw[if_neg h1])<;>(try rw[if_pos h2])<;>(try rw[if_neg h2])
 all_goals skip
 ·have hbq:(decide (an<0) !=decide (bn<0))=false:=by rw[decide_eq_true h1,decide_eq_true h2];rfl
  refine Fo b0y ?_
  repeat' first|refine WY ?_|(apply p0j;exact rfl;exact Cf (by omega);exact rfl)|refine Zbf hbq ?_|refine Zbg hbq ?_|refine Da ?_|refine Dw 18 ?_|refine V ?_|refine W2 ?_ ?_<;>intro hc
  all_goals exact⟨.inr rfl,[.i _,.i 0],.cons (.tmp rfl) (.cons (.tmp rfl) .nil),.tup (.cons (.one (by first|(rw[if_pos (by omega)];exact .lf _)|(rw[if_neg (by omega),if_pos (by omega)];exact .lf _)|(rw[if_neg (by omega),if_neg (by omega)];exact .lf _)|fail)) (.cons (.one (.lf _)) .nil))⟩
 ·have hbq:(decide (an<0) !=decide (bn<0))=true:=by rw[decide_eq_true h1,decide_eq_false h2];rfl
  have:=z1 (by omega)
  refine Fo b0y ?_
  repeat' first|refine WY ?_|(apply p0j;exact rfl;exact Cf (by omega);exact rfl)|refine Zbf hbq ?_|refine Zbg hbq ?_|refine Da ?_|refine Dw 18 ?_|refine V ?_|refine W2 ?_ ?_<;>intro hc
  all_goals exact⟨.inr rfl,[.i _,.i 0],.cons (.tmp rfl) (.cons (.tmp rfl) .nil),.tup (.cons (.one (by first|(rw[if_pos (by omega)];exact .lf _)|(rw[if_neg (by omega),if_pos (by omega)];exact .lf _)|(rw[if_neg (by omega),if_neg (by omega)];exact .lf _)|fail)) (.cons (.one (.lf _)) .nil))⟩
 ·have hbq:(decide (an<0) !=decide (bn<0))=true:=by rw[decide_eq_false h1,decide_eq_true h2];rfl
  have:=z2 (by omega)
  refine Fo b0y ?_
  repeat' first|refine WY ?_|(apply p0j;exact rfl;exact Cf (by omega);exact rfl)|refine Zbf hbq ?_|refine Zbg hbq ?_|refine Da ?_|refine Dw 18 ?_|refine V ?_|refine W2 ?_ ?_<;>intro hc
  all_goals exact⟨.inr rfl,[.i _,.i 0],.cons (.tmp rfl) (.cons (.tmp rfl) .nil),.tup (.cons (.one (by first|(rw[if_pos (by omega)];exact .lf _)|(rw[if_neg (by omega),if_pos (by omega)];exact .lf _)|(rw[if_neg (by omega),if_neg (by omega)];exact .lf _)|fail)) (.cons (.one (.lf _)) .nil))⟩
 ·have hbq:(decide (an<0) !=decide (bn<0))=false:=by rw[decide_eq_false h1,decide_eq_false h2];rfl
  refine Fo b0y ?_
  repeat' first|refine WY ?_|(apply p0j;exact rfl;exact Cf (by omega);exact rfl)|refine Zbf hbq ?_|refine Zbg hbq ?_|refine Da ?_|refine Dw 18 ?_|refine V ?_|refine W2 ?_ ?_<;>intro hc
  all_goals exact⟨.inr rfl,[.i _,.i 0],.cons (.tmp rfl) (.cons (.tmp rfl) .nil),.tup (.cons (.one (by first|(rw[if_pos (by omega)];exact .lf _)|(rw[if_neg (by omega),if_pos (by omega)];exact .lf _)|(rw[if_neg (by omega),if_neg (by omega)];exact .lf _)|fail)) (.cons (.one (.lf _)) .nil))⟩
theorem Xo(n d:Int)(hd:d≠0):(A4 n d).num=(if(decide (¬n=0)&&Du n d)then-((n.natAbs:Int)/(Int.gcd n d:Int))else(n.natAbs:Int)/(Int.gcd n d:Int))/\((A4 n d).den:Int)=(d.natAbs:Int)/(Int.gcd n d:Int):=by
 have e1:=Rat.num_divInt n d
 have e2:=Rat.den_divInt n d
 rw[if_neg hd,a7k]at e2
 rw[a7k]at e1
 refine⟨?_,by unfold A4;rw[e2];rfl⟩
 have dv:(Int.gcd n d:Int)∣(n.natAbs:Int):=Int.dvd_natAbs.2 (Int.gcd_dvd_left ..)
 have hnum:(A4 n d).num=d.sign*n/(Int.gcd n d:Int):=e1
 rw[hnum,<-b2t dv]
 by_cases hz:n=0
 ·subst hz;simp
 ·by_cases h1:n<0<;>by_cases h2:d<0<;>simp only[Du,h1,h2,hz,decide_true,decide_false,not_false_eq_true,a7s,bne_self_eq_false,a5b,if_false,if_true,Bool.bne_true,Bool.bne_false,Bool.not_false,a4r,bne_iff_ne,ne_eq,a7x]
  ·rw[a4y h2];congr 1;omega
  ·rw[a4e (by omega)];congr 1;omega
  ·rw[a4y h2];congr 1;omega
  ·rw[a4e (by omega)];congr 1;omega
theorem Ah1(n d:Int)(hd:d≠0)(n1: -9223372036854775808<=n)(n2:n<=9223372036854775807)(d1: -9223372036854775808<=d)(d2:d<=9223372036854775807):Fz 46 [.i n,.i d] (Bg (A4 n d)):=by
 obtain⟨m1,m2⟩:=Xo n d hd
 have cs1:=Fu n (by omega) (by omega)
 have cs2:=Fu d (by omega) (by omega)
 have cg:=K6 (n.natAbs:Int) (d.natAbs:Int) (by omega) (by omega) (by omega) (by omega)
 rw[show Int.gcd (n.natAbs:Int) (d.natAbs:Int)=Int.gcd n d by simp[Int.gcd]]at cg
 have gp:0<Int.gcd n d:=a7t _ hd
 have q0:0<=(n.natAbs:Int)/(Int.gcd n d:Int):=a1y (by omega) (by omega)
 have q1:(n.natAbs:Int)/(Int.gcd n d:Int)<=n.natAbs:=a2q _ (by omega)
 have q2:0<=(d.natAbs:Int)/(Int.gcd n d:Int):=a1y (by omega) (by omega)
 have q3:(d.natAbs:Int)/(Int.gcd n d:Int)<=d.natAbs:=a2q _ (by omega)
 rw[W8 q0 m1 m2]
 have csg:=Nb (decide (¬n=0)&&Du n d) _ _ (⟨q0,by omega⟩:0<=(n.natAbs:Int)/(Int.gcd n d:Int)/\_) (⟨q2,by omega⟩:0<=(d.natAbs:Int)/(Int.gcd n d:Int)/\_)
 obtain⟨u,v,e,hu⟩:=A34 (decide (¬n=0)&&Du n d) ((n.natAbs:Int)/(Int.gcd n d:Int)) ((d.natAbs:Int)/(Int.gcd n d:Int))
 rw[hu]at csg⊢
 clear m1 m2 hu q0 q1 q2 q3
 generalize hg:(Int.gcd n d:Int)=g at*
 have hbq:(decide (n<0) !=decide (d<0))=Du n d:=rfl
 by_cases hz:n=0
 ·rw[show(decide (¬n=0)&&Du n d)=false by rw[hz];rfl]at csg
  have hz2:¬¬n=0:=fun k=>k hz
  refine Fo Tryz.func46 ?_
  repeat' first|refine WY ?_|(apply p0j;exact rfl;exact Cf (by omega);exact rfl)|refine Zbo ?_|refine Zbf hbq ?_|refine Zbg hbq ?_|refine Dw 18 ?_|refine V ?_|refine W2 ?_ ?_<;>intro hc
  all_goals exact D3 rfl rfl rfl rfl rfl rfl rfl
 ·rw[decide_eq_true hz,a7s]at csg
  generalize Du n d=nb at*
  refine Fo Tryz.func46 ?_
  repeat' first|refine WY ?_|(apply p0j;exact rfl;exact Cf (by omega);exact rfl)|refine Zbo ?_|refine Zbf hbq ?_|refine Zbg hbq ?_|refine Dw 18 ?_|refine V ?_|refine W2 ?_ ?_<;>intro hc
  all_goals exact D3 rfl rfl rfl rfl rfl rfl rfl
theorem Zy(n d:Int)(hn:n<0)(hd:1<=d):n.tdiv d= -(-n/d)/\n.tmod d= -(-n%d):=by
 obtain⟨m,hm⟩:=a1z (show 0<= -n by omega)
 obtain⟨k,rfl⟩:=a1z (show 0<=d by omega)
 have:n= -(m:Int):=by omega
 subst this
 rw[b1u,Int.neg_tmod,Int.neg_neg]
 exact⟨rfl,rfl⟩
theorem Zn(n d:Int)(n1: -1152921504606846976<=n)(n2:n<=1152921504606846976)(d1:1<=d)(d2:d<=1152921504606846976):Fz 192 [.i n,.i d] (.i (n/d)):=by
 have key:∃x y:Int,n.tdiv d=x/\n.tmod d=y/\ -1152921504606846976<=x/\x<=1152921504606846976/\n/d=if y<0 then x-1 else x:=by
  by_cases h:0<=n
  ·refine⟨n/d,n%d,a4d h,a7w h,?_,?_,?_⟩
   ·have:=a1y h (show 0<=d by omega);omega
   ·have:=a2q d h;omega
   ·have:=a4v n (show d≠0 by omega)
    rw[if_neg (by omega)]
  ·obtain⟨e1,e2⟩:=Zy n d (by omega) d1
   have q0:0<= -n/d:=a1y (by omega) (by omega)
   have q1: -n/d<= -n:=a2q _ (by omega)
   obtain⟨f1,f2,f3⟩:=Fq (-n) d (by omega)
   refine⟨_,_,e1,e2,by omega,by omega,?_⟩
   have hd:=G2 n d (if-(-n%d)<0 then-(-n/d)-1 else-(-n/d)) (if-(-n%d)<0 then d- -n%d else 0) (by
    split
    ·rw[a9c,a4n];omega
    ·rw[a4n];omega) (by split<;>omega) (by split<;>omega)
   exact hd.1
 obtain⟨x,y,e1,e2,x1,x2,e3⟩:=key
 have hw:IntKind.i64.wrap (n.tdiv d)=n.tdiv d:=Dy _ (by omega)
 rw[e3]
 by_cases hy:y<0
 ·rw[if_pos hy]
  rw[<-e2]at hy
  refine Fo Tryz.func192 ?_
  repeat' first|refine WY ?_|(apply p3w;(iterate 3 exact rfl);omega;exact hw)|(apply p5o;(iterate 3 exact rfl);omega)|refine V ?_|refine W2 ?_ ?_<;>intro hc
  all_goals exact Dd rfl rfl (by rw[e1])
 ·rw[if_neg hy]
  rw[<-e2]at hy
  refine Fo Tryz.func192 ?_
  repeat' first|refine WY ?_|(apply p3w;(iterate 3 exact rfl);omega;exact hw)|(apply p5o;(iterate 3 exact rfl);omega)|refine V ?_|refine W2 ?_ ?_<;>intro hc
  all_goals exact Dd rfl rfl (by rw[e1])
theorem Af1(q:Rat)(hq:Fits q):Fz 251 [A0 (frR q)] (.tup [.i (q.num/q.den),.i 0]):=by
 have v1:=Fd hq
 obtain⟨b1,b2,b3,b4,_⟩:=validB_spec.1 hq.valid
 have c:=Zn q.num q.den b3 b4 b1 b2
 refine Fo Tryz.func251 ?_
 repeat' first|refine WY ?_|refine Da ?_|refine V ?_|refine W2 ?_ ?_<;>intro hc
 all_goals exact⟨Or.inr rfl,[AV.i (q.num/q.den),.i 0],.cons (.tmp rfl) (.cons (.tmp rfl) .nil),.tup (.cons (.one (.lf _)) (.cons (.one (.lf _)) .nil))⟩
theorem Ah0(q:Rat)(hq:Fits q):Fz 112 [A0 (frR q)] (.tup [.i (-(-q.num/q.den)),.i 0]):=by
 have v1:=Fd hq
 obtain⟨b1,b2,b3,b4,_⟩:=validB_spec.1 hq.valid
 have c:=Zn (-q.num) q.den (by omega) (by omega) b1 b2
 have q1: -q.num/(q.den:Int)<=1152921504606846976/\ -1152921504606846976<= -q.num/(q.den:Int):=by
  refine⟨?_,A2m _ _ _ (by omega) (by omega)⟩
  have:=Mh (-q.num) q.den 1152921504606846977 (by omega) (by omega)
  omega
 refine Fo Tryz.func112 ?_
 repeat' first|refine WY ?_|refine Zd2 ?_|refine Da ?_|refine V ?_|refine W2 ?_ ?_<;>intro hc
 all_goals exact⟨Or.inr rfl,[AV.i (-(-q.num/q.den)),.i 0],.cons (.tmp rfl) (.cons (.tmp rfl) .nil),.tup (.cons (.one (.lf _)) (.cons (.one (.lf _)) .nil))⟩
theorem Zdi{G R:Prop}(r:R)(h:Rest R→G:=by intro r;apply p1b;(iterate 5 exact rfl);exact r.out):G:=h ⟨r⟩
theorem Zds{G R:Prop}(r:R)(h:Rest R→G:=by intro r;apply p2r;(iterate 3 exact rfl);exact r.out):G:=h ⟨r⟩
end Go.Proofs.YtcaicpnepfjcmaaGreat
