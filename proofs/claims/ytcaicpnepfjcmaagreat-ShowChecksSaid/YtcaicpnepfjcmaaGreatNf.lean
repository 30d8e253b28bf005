/- Lemmas of the proof. -/
import Derived.Test.YtcaicpnepfjcmaaGreatMp
set_option linter.all false
set_option maxHeartbeats 64000000
namespace Go.Proofs.YtcaicpnepfjcmaaGreat
def a2m:= @Nat.mul_add
def a2v:= @Nat.mul_assoc
def a3a:= @Nat.mul_le_mul_left
def a5f:= @List.set_cons_zero
def a5i:= @Nat.mul_pos
def a5x:= @List.dropLast_concat_getLast
def a6j:= @Option.getD_none
def a6l:= @List.replicate_succ
def a6n:= @List.eq_of_mem_replicate
def a6t:= @List.getLast?_cons_cons
def a8l:= @Rat.divInt_ofNat
def a8r:= @Nat.mul_zero
def a9a:= @Rat.mkRat_self
def a9e:= @Nat.pow_add
def a9h:= @Nat.add_sub_cancel
def a9x:= @Nat.add_comm
def b0k:= @Nat.mul_lt_mul''
def b0q:= @Nat.one_mul
def b1g:= @List.getElem?_eq_none_iff
def b1h:= @List.mem_or_eq_of_mem_set
def val:List Nat->Nat
 |[]=>0
 |d::r=>d+4294967296*val r
def Dig(l:List Nat):Prop:=∀x∈l,x<4294967296
theorem E1:∀(a b:List Nat),val (a++b)=val a+4294967296^a.length*val b
 |[],b=>by simp[val]
 |d::r,b=>by
  simp only[a3g,val,E1 r b,a0j,a3c,a2m]
  rw[a6d (4294967296^r.length) 4294967296,a2v]
  omega
theorem val_lt:∀(l:List Nat),Dig l->val l<4294967296^l.length
 |[],_=>by simp[val]
 |d::r,h=>by
  have h1:=val_lt r fun x hx=>h x (by simp[hx])
  have h2:=h d (by simp)
  simp only[val,a0j,a3c]
  omega
theorem Dig.take{l:List Nat}(h:Dig l)(k:Nat):Dig (l.take k):=fun x hx=>h x (List.mem_of_mem_take hx)
theorem Dig.get{l:List Nat}(h:Dig l){i x:Nat}(hx:l[i]?=some x):x<4294967296:=h x (a0a hx)
theorem Dig.set{l:List Nat}(h:Dig l)(i:Nat){x:Nat}(hx:x<4294967296):Dig (l.set i x):=fun y hy=>by
 rcases b1h hy with h1|h1
 ·exact h y h1
 ·rw[h1];exact hx
theorem Cw{l:List Nat}{i x:Nat}(hx:l[i]?=some x):val (l.take (i+1))=val (l.take i)+4294967296^i*x:=by
 have hi:i<l.length:=(a0f.1 hx).1
 rw[a0u,hx,E1]
 simp[val,a5m (Nat.le_of_lt hi)]
theorem A02(l:List Nat)(k:Nat)(hk:k<=l.length):val l=val (l.take k)+4294967296^k*val (l.drop k):=by
 have:=E1 (l.take k) (l.drop k)
 rw[a4i,a0x,a5m hk]at this
 exact this
theorem J3:∀(l:List Nat)(i x y:Nat),l[i]?=some y->val (l.set i x)+4294967296^i*y=val l+4294967296^i*x
 |[],i,x,y,h=>by simp at h
 |d::r,0,x,y,h=>by
  simp at h;subst h
  simp only[a5f,val,Nat.pow_zero,b0q];omega
 |d::r,i+1,x,y,h=>by
  have:=J3 r i x y (by simpa using h)
  simp only[a5e,val,a3c]
  rw[a6d (4294967296^i) 4294967296,a2v,a2v]
  omega
theorem Ha:∀n:Nat,val (List.replicate n 0)=0
 |0=>rfl
 |n+1=>by simp[a6l,val,Ha n]
def Trim(l:List Nat):Prop:=∀x,l.getLast?=some x->x≠0
theorem Gb{l:List Nat}(h:Trim l)(hne:l≠[]):4294967296^(l.length-1)<=val l:=by
 obtain⟨r,x,rfl⟩:∃r x,l=r++[x]:=⟨l.dropLast,l.getLast hne,(a5x hne).symm⟩
 have hx:x≠0:=h x (by simp)
 rw[E1]
 simp only[a0s,a6b,a9h,val,a8r,a3b]
 have:4294967296^r.length*1<=4294967296^r.length*x:=a3a _ (by omega)
 omega
theorem Ip{a b:List Nat}(ta:Trim a)(db:Dig b)(h:b.length<a.length):val b<val a:=by
 have h1:=Gb ta (by intro e;rw[e]at h;simp at h)
 have h2:=val_lt b db
 have h3:(4294967296:Nat)^b.length<=4294967296^(a.length-1):=a1s (by decide) (by omega)
 omega
theorem Rt{l:List Nat}(h:Trim l):val l=0↔l=[]:=by
 constructor
 ·intro h0
  by_cases he:l=[]
  ·exact he
  ·have h1:=Gb h he
   have h2:0<(4294967296:Nat)^(l.length-1):=Nat.pow_pos (by decide)
   omega
 ·rintro rfl;rfl
theorem V0:Trim []:=fun x h=>by simp at h
theorem val_take_zero{l:List Nat}{k:Nat}(hk:l[k]?=some 0):val (l.take (k+1))=val (l.take k):=by
 rw[Cw hk];simp
theorem trim_take{l:List Nat}{k x:Nat}(hk:l[k]?=some x)(hx:x≠0):Trim (l.take (k+1)):=fun y hy=>by
 rw[a0u,hk]at hy
 simp at hy
 omega
/-! ### Sums -/
def Nn(a b m:List Nat)(i c:Nat):Prop:=m.length=a.length+1/\Dig m/\(∀j,i<=j->j<m.length->m[j]?=some 0)/\val m+4294967296^i*c=val (a.take i)+val (b.take i)/\c<=1
theorem Y9(a b:List Nat):Nn a b (List.replicate (a.length+1) 0) 0 0:=by
 refine⟨by simp,fun x hx=>by rw[a6n hx];decide,fun j _ hj=>?_,by simp[Ha,val],by omega⟩
 simp at hj
 rw[a3z,if_pos hj]
theorem Bj(l:List Nat)(i:Nat):val (l.take (i+1))=val (l.take i)+4294967296^i*l[i]?.getD 0:=by
 cases h:l[i]? with
 |none=>
  have:=b1g.1 h
  rw[a0g (by omega),a0g (by omega)]
  simp
 |some x=>rw[Cw h];rfl
theorem get_lt{a:List Nat}(da:Dig a)(i:Nat):a[i]?.getD 0<4294967296:=by
 cases e:a[i]? with
 |none=>simp
 |some x=>exact da.get e
theorem Jn{a b m:List Nat}{i c q r:Nat}(da:Dig a)(db:Dig b)(h:Nn a b m i c)(hi:i<m.length)(hr:r<4294967296)(hq:4294967296*q+r=c+a[i]?.getD 0+b[i]?.getD 0):Nn a b (m.set i r) (i+1) q:=by
 obtain⟨h1,h2,h3,h4,h5⟩:=h
 have ha:=get_lt da i
 have hb:=get_lt db i
 refine⟨by simpa using h1,h2.set i hr,fun j hj hjl=>?_,?_,by omega⟩
 ·rw[a4q (by omega)]
  exact h3 j (by omega) (by simpa using hjl)
 ·have e:=J3 m i r 0 (h3 i (a0n _) hi)
  rw[Bj,Bj,a3c]
  generalize a[i]?.getD 0=x at*
  generalize b[i]?.getD 0=y at*
  have:4294967296^i*4294967296*q+4294967296^i*r=4294967296^i*c+4294967296^i*x+4294967296^i*y:=by
   rw[a2v,<-a2m,hq,a2m,a2m]
  omega
theorem A73{P m va vb c:Nat}(h:m+P*4294967296*c=va+vb)(ha:va<P)(hb:vb<P):m=va+vb:=by
 rcases a0y 0 c with hc|hc
 ·have:P*4294967296*1<=P*4294967296*c:=a3a _ hc
  rw[a4g]at this
  generalize P*4294967296*c=X at*
  omega
 ·obtain rfl:c=0:=by omega
  rw[a8r,a3b]at h
  exact h
theorem A4p{a b m:List Nat}{c:Nat}(hl:b.length<=a.length)(da:Dig a)(db:Dig b)(h:Nn a b m (a.length+1) c):val m=val a+val b:=by
 obtain⟨h1,h2,h3,h4,h5⟩:=h
 rw[a0g (by omega),a0g (by omega),a3c]at h4
 have l3:(4294967296:Nat)^b.length<=4294967296^a.length:=a1s (by omega) hl
 exact A73 h4 (val_lt a da) (a5g (val_lt b db) l3)

/-! ### Differences -/
def Qi(a b m:List Nat)(i c:Nat):Prop:=m.length=a.length/\Dig m/\(∀j,i<=j->j<m.length->m[j]?=some 0)/\val m+val (b.take i)=val (a.take i)+4294967296^i*c/\c<=1
theorem Acb(a b:List Nat):Qi a b (List.replicate a.length 0) 0 0:=by
 refine⟨by simp,fun x hx=>by rw[a6n hx];decide,fun j _ hj=>?_,by simp[Ha,val],by omega⟩
 simp at hj
 rw[a3z,if_pos hj]
theorem Q4{a b m:List Nat}{i c d c':Nat}(h:Qi a b m i c)(hi:i<m.length)(hd:d<4294967296)(hc:c'<=1)(he:d+c+b[i]?.getD 0=a[i]?.getD 0+4294967296*c'):
  Qi a b (m.set i d) (i+1) c':=by
 obtain⟨h1,h2,h3,h4,h5⟩:=h
 refine⟨by simpa using h1,h2.set i hd,fun j hj hjl=>?_,?_,hc⟩
 ·rw[a4q (by omega)]
  exact h3 j (by omega) (by simpa using hjl)
 ·have e:=J3 m i d 0 (h3 i (a0n _) hi)
  rw[Bj,Bj,a3c]
  generalize a[i]?.getD 0=x at*
  generalize b[i]?.getD 0=y at*
  have:4294967296^i*d+4294967296^i*c+4294967296^i*y=4294967296^i*x+4294967296^i*4294967296*c':=by
   rw[a2v,<-a2m,<-a2m,he,a2m]
  omega
theorem Ah8{a b m:List Nat}{c:Nat}(hl:b.length<=a.length)(hv:val b<=val a)(h:Qi a b m a.length c):val m=val a-val b:=by
 obtain⟨h1,h2,h3,h4,h5⟩:=h
 rw[a0g hl,a0g (a0n _)]at h4
 have l1:=val_lt m h2
 rw[h1]at l1
 rcases a0y 0 c with hc|hc
 ·have:4294967296^a.length*1<=4294967296^a.length*c:=a3a _ hc
  omega
 ·obtain rfl:c=0:=by omega
  omega
theorem trim_le{a b:List Nat}(tb:Trim b)(da:Dig a)(h:val b<=val a):b.length<=a.length:=by
 rcases a0y a.length b.length with h1|h1
 ·have:=Ip tb da h1;omega
 ·exact h1

/-! ### Products -/
def Qh(a b m:List Nat)(i:Nat):Prop:=m.length=a.length+b.length/\Dig m/\(∀j,i+b.length<=j->j<m.length->m[j]?=some 0)/\val m=val (a.take i)*val b
def V6(a b m:List Nat)(i x k c:Nat):Prop:=m.length=a.length+b.length/\Dig m/\(∀j,i+b.length<=j->j<m.length->m[j]?=some 0)/\val m+4294967296^(i+k)*c=val (a.take i)*val b+4294967296^i*x*val (b.take k)/\c<4294967296
theorem Aag(a b:List Nat):Qh a b (List.replicate (a.length+b.length) 0) 0:=by
 refine⟨by simp,fun x hx=>by rw[a6n hx];decide,fun j _ hj=>?_,by simp[Ha,val]⟩
 simp at hj
 rw[a3z,if_pos hj]
theorem Ai4{a b m:List Nat}{i:Nat}(x:Nat)(h:Qh a b m i):V6 a b m i x 0 0:=by
 obtain⟨h1,h2,h3,h4⟩:=h
 exact⟨h1,h2,h3,by simp[val,h4],by decide⟩
theorem Adw{a b m:List Nat}{i x k c y z q r:Nat}(h:V6 a b m i x k c)(hx:x<4294967296)(hy:b[k]?=some y)(hyd:y<4294967296)(hz:m[i+k]?=some z)(hr:r<4294967296)(hq:4294967296*q+r=c+(x*y+z))(hqd:q<4294967296):
  V6 a b (m.set (i+k) r) i x (k+1) q:=by
 obtain⟨h1,h2,h3,h4,h5⟩:=h
 have hk:k<b.length:=(a0f.1 hy).1
 refine⟨by simpa using h1,h2.set _ hr,fun j hj hjl=>?_,?_,hqd⟩
 ·rw[a4q (by omega)]
  exact h3 j hj (by simpa using hjl)
 ·have e:=J3 m (i+k) r z hz
  have e4:(4294967296:Nat)^(i+(k+1))=4294967296^(i+k)*4294967296:=by rw[<-a1t,a3c]
  rw[Cw hy,e4]
  have e2:4294967296^(i+k)*4294967296*q+4294967296^(i+k)*r=4294967296^(i+k)*c+(4294967296^(i+k)*(x*y)+4294967296^(i+k)*z):=by
   rw[a2v,<-a2m,hq,a2m,a2m]
  have e3:4294967296^i*x*(val (b.take k)+4294967296^k*y)=4294967296^i*x*val (b.take k)+4294967296^(i+k)*(x*y):=by
   rw[a2m,a9e]
   congr 1
   rw[a2v,a2v]
   congr 1
   rw[<-a2v,a6d x,a2v]
  rw[e3]
  omega
theorem Adv{x y z c:Nat}(hx:x<4294967296)(hy:y<4294967296)(hz:z<4294967296)(hc:c<4294967296):x*y<=18446744065119617025/\c+(x*y+z)<18446744073709551616:=by
 have hxy:x*y<=4294967295*4294967295:=a5u (by omega) (by omega)
 omega
theorem Agh{a b m:List Nat}{i x c:Nat}(h:V6 a b m i x b.length c)(hi:a[i]?=some x):Qh a b (m.set (i+b.length) c) (i+1):=by
 obtain⟨h1,h2,h3,h4,h5⟩:=h
 have hil:i<a.length:=(a0f.1 hi).1
 refine⟨by simpa using h1,h2.set _ h5,fun j hj hjl=>?_,?_⟩
 ·rw[a4q (by omega)]
  exact h3 j (by omega) (by simpa using hjl)
 ·have e:=J3 m (i+b.length) c 0 (h3 _ (a0n _) (by omega))
  rw[Cw hi,a3u]
  rw[a0g (a0n _)]at h4
  omega
theorem Agg{a b m:List Nat}(h:Qh a b m a.length):val m=val a*val b:=by
 have:=h.2.2.2
 rwa[a0g (a0n _)]at this
def wds(n:Nat):List Nat:=if h:n=0 then[]else n%4294967296::wds (n/4294967296)
termination_by n
decreasing_by omega
theorem wds_zero:wds 0=[]:=by rw[wds];simp
theorem wds_pos{n:Nat}(h:n≠0):wds n=n%4294967296::wds (n/4294967296):=by rw[wds,dif_neg h]
theorem Rs{d:Nat}{r:List Nat}(h:Trim (d::r)):Trim r:=fun x hx=>h x (by
 cases r with
 |nil=>simp at hx
 |cons y r=>rw[a6t];exact hx)
theorem wds_uniq:∀l:List Nat,Dig l->Trim l->wds (val l)=l
 |[],_,_=>wds_zero
 |d::r,hd,ht=>by
  have h1:=hd d (by simp)
  have h0:val (d::r)≠0:=fun h=>by have:=(Rt ht).1 h;cases this
  have e1:val (d::r)%4294967296=d:=by simp only[val];omega
  have e2:val (d::r)/4294967296=val r:=by simp only[val];omega
  rw[wds_pos h0,e1,e2,wds_uniq r (fun x hx=>hd x (by simp[hx])) (Rs ht)]
theorem wds_dig(n:Nat):Dig (wds n):=by
 induction n using Nat.strongRecOn with
 |_ n ih=>
  by_cases h:n=0
  ·subst h;rw[wds_zero];intro x hx;simp at hx
  ·rw[wds_pos h]
   intro x hx
   rcases a1q.1 hx with rfl|hx
   ·omega
   ·exact ih (n/4294967296) (by omega) x hx
theorem wds_val(n:Nat):val (wds n)=n:=by
 induction n using Nat.strongRecOn with
 |_ n ih=>
  by_cases h:n=0
  ·subst h;rw[wds_zero];rfl
  ·rw[wds_pos h,val,ih (n/4294967296) (by omega)];omega
theorem wds_trim(n:Nat):Trim (wds n):=by
 induction n using Nat.strongRecOn with
 |_ n ih=>
  by_cases h:n=0
  ·subst h;rw[wds_zero];exact V0
  ·rw[wds_pos h]
   intro x hx
   by_cases h2:n/4294967296=0
   ·rw[h2,wds_zero]at hx
    simp at hx
    omega
   ·have:=ih (n/4294967296) (by omega) x
    rw[wds_pos h2]at hx this
    rw[a6t]at hx
    exact this hx
theorem wds_len{n k:Nat}(h:n<4294967296^k):(wds n).length<=k:=by
 rcases a0y k (wds n).length with h1|h1
 ·have h2:=Gb (wds_trim n) (by intro e;rw[e]at h1;simp at h1)
  rw[wds_val]at h2
  have h3:(4294967296:Nat)^k<=4294967296^((wds n).length-1):=a1s (by decide) (by omega)
  omega
 ·exact h1
theorem wds_nil{n:Nat}:wds n=[]↔n=0:=by
 constructor
 ·intro h
  have:=wds_val n
  rw[h]at this
  exact this.symm
 ·rintro rfl;exact wds_zero
def sgn(s:Bool)(n:Nat):Int:=if s then-(n:Int)else n
def Jh(s:Bool)(a:Nat)(t:Bool)(b:Nat):Bool×Nat:=if s=t then(s,a+b)else if a<b then(t,b-a)else(s,a-b)
theorem Aaq(s:Bool)(a:Nat)(t:Bool)(b:Nat):sgn (Jh s a t b).1 (Jh s a t b).2=sgn s a+sgn t b:=by
 unfold Jh sgn
 cases s<;>cases t<;>simp only[if_true,if_false,a5b,a7x,reduceCtorEq]<;>(try omega)<;>(split<;>simp only[if_true,if_false,a5b]<;>omega)
theorem Uw(s:Bool)(a:Nat)(t:Bool)(b:Nat):sgn (s !=t) (a*b)=sgn s a*sgn t b:=by
 unfold sgn
 cases s<;>cases t<;>simp[a3y,a4n,Int.mul_neg]
theorem sgn_neg(s:Bool)(a:Nat):sgn (!s) a= -sgn s a:=by
 unfold sgn
 cases s<;>simp
theorem A6g(z:Int):sgn (decide (z<0)) z.natAbs=z:=by
 unfold sgn
 by_cases h:z<0<;>simp[h]<;>omega
theorem Ae9(s:Bool)(a:Nat)(t:Bool)(b:Nat):(Jh s a t b).2<=a+b:=by
 unfold Jh
 split
 ·exact a0n _
 ·split<;>simp<;>omega
structure Ex where
 s:Bool
 n:Nat
 d:Nat
def Ex.val(x:Ex):Rat:=mkRat (sgn x.s x.n) x.d
def Ex.bd(k:Nat)(x:Ex):Prop:=x.n<4294967296^k/\x.d<4294967296^k/\0<x.d
def Ex.ofQ(q:Rat):Ex:=⟨decide (q.num<0),q.num.natAbs,q.den⟩
def p1d(n:Int)(d:Nat):Ex:=⟨decide (n<0),n.natAbs,d⟩
def Ex.plus(x y:Ex):Ex:=⟨(Jh (x.s !=false) (x.n*y.d) (y.s !=false) (y.n*x.d)).1,(Jh (x.s !=false) (x.n*y.d) (y.s !=false) (y.n*x.d)).2,x.d*y.d⟩
def Ex.less(x y:Ex):Ex:=x.plus ⟨!y.s,y.n,y.d⟩
def Ex.times(x y:Ex):Ex:=⟨x.s !=y.s,x.n*y.n,x.d*y.d⟩
def Ex.sign(x:Ex):Int:=if x.n=0 then 0 else if x.s then-1 else 1
theorem Ex.val_ofQ(q:Rat):(Ex.ofQ q).val=q:=by
 unfold Ex.val Ex.ofQ
 rw[A6g]
 exact a9a q
theorem p3l(n:Int)(d:Nat):(p1d n d).val=mkRat n d:=by
 unfold Ex.val p1d
 rw[A6g]
theorem Ex.val_times(x y:Ex):(x.times y).val=x.val*y.val:=by
 unfold Ex.val Ex.times
 rw[Uw,Rat.mkRat_mul_mkRat]
theorem Ex.val_plus{x y:Ex}(hx:0<x.d)(hy:0<y.d):(x.plus y).val=x.val+y.val:=by
 unfold Ex.val Ex.plus
 rw[Aaq,Uw,Uw,Rat.mkRat_add_mkRat _ _ (by omega) (by omega)]
 simp[sgn]
theorem Ex.val_less{x y:Ex}(hx:0<x.d)(hy:0<y.d):(x.less y).val=x.val-y.val:=by
 unfold Ex.less
 rw[Ex.val_plus (y:=⟨!y.s,y.n,y.d⟩) hx hy,a4l]
 congr 1
 unfold Ex.val
 rw[sgn_neg,Rat.neg_mkRat]
theorem Rk{p q:Int}(hq:0<q):(Rat.divInt p q).num.sign=p.sign:=by
 by_cases hp:p=0
 ·subst hp;simp
 have h1:=Rat.num_divInt p q
 rw[a4e hq,b2u]at h1
 have hg:0<(Int.gcd q p:Int):=by
  have:Int.gcd q p≠0:=by simp[Int.gcd_eq_zero_iff,hp]
  omega
 rw[h1]
 have hd:(Int.gcd q p:Int)∣p:=Int.gcd_dvd_right ..
 have h2:p=p/(Int.gcd q p:Int)*(Int.gcd q p:Int):=(Int.ediv_mul_cancel hd).symm
 conv=>rhs;rw[h2]
 rw[Int.sign_mul,a4e hg,Int.mul_one]
theorem p4b{x:Ex}(hx:0<x.d):x.sign=x.val.num.sign:=by
 have h1:x.val.num.sign=(sgn x.s x.n).sign:=by
  unfold Ex.val
  rw[<-a8l]
  exact Rk (by omega)
 rw[h1]
 unfold Ex.sign sgn
 split
 ·rename_i h;rw[h];split<;>rfl
 ·split
  ·rw[a4y (by omega)]
  ·rw[a4e (by omega)]
theorem A2h{a j k:Nat}(h:a<4294967296^j)(hj:j<=k):a<4294967296^k:=a5g h (a1s (by decide) hj)
theorem Me{a b j k:Nat}(ha:a<4294967296^j)(hb:b<4294967296^k):a*b<4294967296^(j+k):=by
 rw[a9e]
 exact b0k ha hb
theorem Ex.bd.mono{x:Ex}{j k:Nat}(h:x.bd j)(hj:j<=k):x.bd k:=⟨A2h h.1 hj,A2h h.2.1 hj,h.2.2⟩
theorem Ex.bd_times{x y:Ex}{j k:Nat}(hx:x.bd j)(hy:y.bd k):(x.times y).bd (j+k):=⟨Me hx.1 hy.1,Me hx.2.1 hy.2.1,a5i hx.2.2 hy.2.2⟩
theorem Ex.bd_plus{x y:Ex}{j k:Nat}(hx:x.bd j)(hy:y.bd k):(x.plus y).bd (j+k+1):=by
 refine⟨?_,A2h (Me hx.2.1 hy.2.1) (by omega),a5i hx.2.2 hy.2.2⟩
 have h1:=Ae9 (x.s !=false) (x.n*y.d) (y.s !=false) (y.n*x.d)
 have h2:=Me hx.1 hy.2.1
 have h3:=Me hy.1 hx.2.1
 rw[a9x k j]at h3
 unfold Ex.plus
 simp only[]
 rw[a3c]
 generalize 4294967296^(j+k)=B at*
 omega
theorem Ex.bd_less{x y:Ex}{j k:Nat}(hx:x.bd j)(hy:y.bd k):(x.less y).bd (j+k+1):=by
 unfold Ex.less
 exact Ex.bd_plus (y:=⟨!y.s,y.n,y.d⟩) hx ⟨hy.1,hy.2.1,hy.2.2⟩
end Go.Proofs.YtcaicpnepfjcmaaGreat
namespace Go.Proofs.YtcaicpnepfjcmaaGreat
open Go Go.RowKit
abbrev wq(l:List Nat):List (List Lf):=wsR .u32 l
theorem Air(x:Nat):IntKind.u32.wrap (x:Int)=((x%4294967296:Nat):Int):=by rw[Di];omega
theorem Jm{x:Nat}(h:x<18446744073709551616):IntKind.u64.wrap (x:Int)=(x:Int):=by rw[C7];omega
theorem Ahh{x:Nat}(h:x<4294967296):IntKind.u32.wrap (x:Int)=(x:Int):=by rw[Di];omega
theorem A47(l:List Nat)(hd:Dig l)(hl:l.length<=4000):Fz 250 [.sl (wq l)] (.sl (wq (wds (val l)))):=by
 refine Fo Tryz.func250 ?_
 repeat' first|refine WX ?_|refine W2 ?_ ?_<;>intro hc
 refine p0c (fun k=>k<=l.length/\val (l.take k)=val l) (fun k=>k) (fun k=>[(0,.sl (wq (l.take k)))]) (fun _=>[]) l.length ⟨a0n _,by rw[a0g (a0n _)]⟩ (.cons (by rw[a0g (a0n _)];rfl) rfl .nil) .nil ?_
 rintro k ⟨hk,hv⟩
 have hlen:(wq (l.take k)).length=k:=by rw[B7,a0x,a5m hk]
 cases k with
 |zero=>
  have h0:¬(0:Int)<((wq (l.take 0)).length:Nat):=by rw[hlen];omega
  repeat' first|refine WX ?_|refine W2 ?_ ?_<;>intro hc
  exact E5 (by simp) Tryz.results250 rfl (by rw[<-hv,show val (l.take 0)=0 from rfl,wds_zero];exact .one (.one (.lf _)))
 |succ k=>
  have h1:(0:Int)<((wq (l.take (k+1))).length:Nat):=by rw[hlen];omega
  have h2:(((wq (l.take (k+1))).length:Nat):Int)-1=(k:Nat):=by rw[hlen];omega
  obtain⟨x,hx⟩:∃x,l[k]?=some x:=⟨l[k],a0b (by omega)⟩
  have hx':(l.take (k+1))[k]?=some x:=by rw[a1o (by omega),hx]
  have hb:(wq (l.take (k+1)))[((((wq (l.take (k+1))).length:Nat):Int)-1).toNat]?=some [.val (.int .u32 (x:Int))]:=by rw[h2];exact Ez hx'
  have h3:(wq (l.take (k+1))).take ((((wq (l.take (k+1))).length:Nat):Int)-1).toNat=wq (l.take k):=by rw[h2,A3p,a0q,List.take_take,a5m (by omega)]
  by_cases h0:(x:Int)=0
  ·repeat' first|refine WY ?_|refine Zdz ?_|refine V ?_|refine W2 ?_ ?_<;>intro hc
   refine Next.go k ⟨by omega,?_⟩ (a3n k) (.cons (by rw[h3];rfl) rfl .nil) .nil
   have:x=0:=by omega
   subst this
   rw[<-val_take_zero hx,hv]
  ·repeat' first|refine WY ?_|refine Zdz ?_|refine V ?_|refine W2 ?_ ?_<;>intro hc
   refine E5 (by simp) Tryz.results250 rfl ?_
   rw[<-hv,wds_uniq _ (hd.take _) (trim_take hx (by omega))]
   exact .one (.one (.lf _))
structure AddS where
 i:Nat
 m:List Nat
 c:Nat
theorem H2(l:List Nat)(n:Nat)(hd:Dig l)(hl:l.length<=4000)(h:val l=n):Fz 250 [.sl (wq l)] (.sl (wq (wds n))):=by
 subst h;exact A47 l hd hl
theorem A26(a b:List Nat)(da:Dig a)(db:Dig b)(hla:a.length<=1000)(hle:b.length<=a.length):
  Fz 287 [.sl (wq a),.sl (wq b)] (.sl (wq (wds (val a+val b)))):=by
 have e1:(wq a).length=a.length:=B7 _ _
 have e2:(wq b).length=b.length:=B7 _ _
 have hlt:¬(((wq a).length:Nat):Int)<((wq b).length:Nat):=by omega
 have h1:(((wq a).length:Nat):Int)+1=((a.length+1:Nat):Int):=by omega
 refine Fo Tryz.func287 ?_
 repeat' first|refine WY ?_|refine Zbb ?_|(apply p3d (n:=a.length+1);exact rfl;rw[<-h1];exact rfl;omega;exact rfl;exact rfl)|refine V ?_|refine W2 ?_ ?_<;>intro hc
 refine p0c (fun(s:AddS)=>s.i<=a.length+1/\Nn a b s.m s.i s.c) (fun s=>a.length+1-s.i) (fun s=>[(21,.i s.i),(20,.i ((a.length+1:Nat):Int)),(6,.val (.int .u64 (s.c:Int))),(5,.own 0 0 (a.length+1) 1),(0,.sl (wq a)),(1,.sl (wq b))]) (fun s=>[.live (wsA .u32 s.m)]) ⟨0,List.replicate (a.length+1) 0,0⟩ ⟨a0k _,Y9 a b⟩ CV (.live (Aw _ _ _) .nil) ?_
 rintro⟨i,m,c⟩ ⟨hi,hinv⟩
 dsimp only at hi hinv⊢
 have hinv':=hinv
 obtain⟨hm,hdm,_,_,hc1⟩:=hinv
 by_cases hil:i<m.length
 ·have h3:(i:Int)<((a.length+1:Nat):Int):=by omega
  have hinv:=hinv'
  by_cases hia:i<a.length
  ·obtain⟨x,hx⟩:∃x,a[i]?=some x:=⟨a[i],a0b hia⟩
   have hbx:=Ez (k:=.u32) hx
   have hxl:=da.get hx
   have hia':(i:Int)<((wq a).length:Nat):=by omega
   by_cases hib:i<b.length
   ·obtain⟨y,hy⟩:∃y,b[i]?=some y:=⟨b[i],a0b hib⟩
    have hby:=Ez (k:=.u32) hy
    have hyl:=db.get hy
    have hib':(i:Int)<((wq b).length:Nat):=by omega
    have hr:IntKind.u32.wrap ((c:Int)+(x:Int)+(y:Int))=(((c+x+y)%4294967296:Nat):Int):=by rw[Di];omega
    have hq:((c:Int)+(x:Int)+(y:Int))/4294967296=(((c+x+y)/4294967296:Nat):Int):=by omega
    repeat' first|refine WY ?_|refine Zd0 ?_|refine Zb6 (Jm (show x<18446744073709551616 by omega)) ?_|refine Zb6 (Jm (show y<18446744073709551616 by omega)) ?_|refine Zb6 hr ?_|refine Zdh ?_|refine Zbb ?_|(apply p1g i;(iterate 4 exact rfl);rfl;omega)|refine Zbv ?_|refine V ?_|refine W2 ?_ ?_<;>intro hc
    exact Next.go ⟨i+1,m.set i ((c+x+y)%4294967296),(c+x+y)/4294967296⟩ ⟨by dsimp only;omega,Jn da db hinv hil (Nat.mod_lt _ (by decide)) (by rw[hx,hy,Option.getD_some,Option.getD_some];dsimp only;omega)⟩ (by dsimp only;omega) (.cons rfl rfl (.cons rfl rfl (.cons (by rw[<-hq];rfl) rfl CV))) (.live (Aw _ _ _) .nil)
   ·have hib':¬(i:Int)<((wq b).length:Nat):=by omega
    have hr:IntKind.u32.wrap ((c:Int)+(x:Int))=(((c+x+0)%4294967296:Nat):Int):=by rw[Di];omega
    have hq:((c:Int)+(x:Int))/4294967296=(((c+x+0)/4294967296:Nat):Int):=by omega
    repeat' first|refine WY ?_|refine Zd0 ?_|refine Zb6 (Jm (show x<18446744073709551616 by omega)) ?_|refine Zb6 hr ?_|refine Zdh ?_|refine Zbb ?_|(apply p1g i;(iterate 4 exact rfl);rfl;omega)|refine Zbv ?_|refine V ?_|refine W2 ?_ ?_<;>intro hc
    exact Next.go ⟨i+1,m.set i ((c+x+0)%4294967296),(c+x+0)/4294967296⟩ ⟨by dsimp only;omega,Jn da db hinv hil (Nat.mod_lt _ (by decide)) (by rw[hx,List.getElem?_eq_none (by omega),Option.getD_some,Option.getD_none];dsimp only;omega)⟩ (by dsimp only;omega) (.cons rfl rfl (.cons rfl rfl (.cons (by rw[<-hq];rfl) rfl CV))) (.live (Aw _ _ _) .nil)
  ·have hia':¬(i:Int)<((wq a).length:Nat):=by omega
   have hib':¬(i:Int)<((wq b).length:Nat):=by omega
   have hr:IntKind.u32.wrap ((c:Int))=(((c+0+0)%4294967296:Nat):Int):=by rw[Di];omega
   have hq:((c:Int))/4294967296=(((c+0+0)/4294967296:Nat):Int):=by omega
   repeat' first|refine WY ?_|refine Zd0 ?_|refine Zb6 hr ?_|refine Zdh ?_|refine Zbb ?_|(apply p1g i;(iterate 4 exact rfl);rfl;omega)|refine Zbv ?_|refine V ?_|refine W2 ?_ ?_<;>intro hc
   exact Next.go ⟨i+1,m.set i ((c+0+0)%4294967296),(c+0+0)/4294967296⟩ ⟨by dsimp only;omega,Jn da db hinv hil (Nat.mod_lt _ (by decide)) (by rw[List.getElem?_eq_none (by omega),List.getElem?_eq_none (by omega),Option.getD_none];dsimp only;omega)⟩ (by dsimp only;omega) (.cons rfl rfl (.cons rfl rfl (.cons (by rw[<-hq];rfl) rfl CV))) (.live (Aw _ _ _) .nil)
 ·have h3:¬(i:Int)<((a.length+1:Nat):Int):=by omega
  obtain rfl:i=a.length+1:=by omega
  repeat' first|refine W ?_|(refine T.freeze 5 rfl rfl (G5 .u32 m hm.symm) ?_)|refine Zbi (H2 m (val a+val b) hdm (by omega) (A4p hle da db hinv')) ?_|refine V ?_|refine W2 ?_ ?_<;>intro hc
  exact E5 (by simp) Tryz.results287 rfl (.one (.one (.lf _)))
theorem A27(a b:List Nat)(da:Dig a)(db:Dig b)(hla:a.length<=1000)(hsw:b.length<a.length):
  Fz 287 [.sl (wq b),.sl (wq a)] (.sl (wq (wds (val a+val b)))):=by
 have e1:(wq a).length=a.length:=B7 _ _
 have e2:(wq b).length=b.length:=B7 _ _
 have hle:b.length<=a.length:=by omega
 have hlt:(((wq b).length:Nat):Int)<((wq a).length:Nat):=by omega
 have h1:(((wq a).length:Nat):Int)+1=((a.length+1:Nat):Int):=by omega
 refine Fo Tryz.func287 ?_
 repeat' first|refine WY ?_|refine Zbb ?_|(apply p3d (n:=a.length+1);exact rfl;rw[<-h1];exact rfl;omega;exact rfl;exact rfl)|refine V ?_|refine W2 ?_ ?_<;>intro hc
 refine p0c (fun(s:AddS)=>s.i<=a.length+1/\Nn a b s.m s.i s.c) (fun s=>a.length+1-s.i) (fun s=>[(21,.i s.i),(20,.i ((a.length+1:Nat):Int)),(6,.val (.int .u64 (s.c:Int))),(5,.own 0 0 (a.length+1) 1),(0,.sl (wq a)),(1,.sl (wq b))]) (fun s=>[.live (wsA .u32 s.m)]) ⟨0,List.replicate (a.length+1) 0,0⟩ ⟨a0k _,Y9 a b⟩ CV (.live (Aw _ _ _) .nil) ?_
 rintro⟨i,m,c⟩ ⟨hi,hinv⟩
 dsimp only at hi hinv⊢
 have hinv':=hinv
 obtain⟨hm,hdm,_,_,hc1⟩:=hinv
 by_cases hil:i<m.length
 ·have h3:(i:Int)<((a.length+1:Nat):Int):=by omega
  have hinv:=hinv'
  by_cases hia:i<a.length
  ·obtain⟨x,hx⟩:∃x,a[i]?=some x:=⟨a[i],a0b hia⟩
   have hbx:=Ez (k:=.u32) hx
   have hxl:=da.get hx
   have hia':(i:Int)<((wq a).length:Nat):=by omega
   by_cases hib:i<b.length
   ·obtain⟨y,hy⟩:∃y,b[i]?=some y:=⟨b[i],a0b hib⟩
    have hby:=Ez (k:=.u32) hy
    have hyl:=db.get hy
    have hib':(i:Int)<((wq b).length:Nat):=by omega
    have hr:IntKind.u32.wrap ((c:Int)+(x:Int)+(y:Int))=(((c+x+y)%4294967296:Nat):Int):=by rw[Di];omega
    have hq:((c:Int)+(x:Int)+(y:Int))/4294967296=(((c+x+y)/4294967296:Nat):Int):=by omega
    repeat' first|refine WY ?_|refine Zd0 ?_|refine Zb6 (Jm (show x<18446744073709551616 by omega)) ?_|refine Zb6 (Jm (show y<18446744073709551616 by omega)) ?_|refine Zb6 hr ?_|refine Zdh ?_|refine Zbb ?_|(apply p1g i;(iterate 4 exact rfl);rfl;omega)|refine Zbv ?_|refine V ?_|refine W2 ?_ ?_<;>intro hc
    exact Next.go ⟨i+1,m.set i ((c+x+y)%4294967296),(c+x+y)/4294967296⟩ ⟨by dsimp only;omega,Jn da db hinv hil (Nat.mod_lt _ (by decide)) (by rw[hx,hy,Option.getD_some,Option.getD_some];dsimp only;omega)⟩ (by dsimp only;omega) (.cons rfl rfl (.cons rfl rfl (.cons (by rw[<-hq];rfl) rfl CV))) (.live (Aw _ _ _) .nil)
   ·have hib':¬(i:Int)<((wq b).length:Nat):=by omega
    have hr:IntKind.u32.wrap ((c:Int)+(x:Int))=(((c+x+0)%4294967296:Nat):Int):=by rw[Di];omega
    have hq:((c:Int)+(x:Int))/4294967296=(((c+x+0)/4294967296:Nat):Int):=by omega
    repeat' first|refine WY ?_|refine Zd0 ?_|refine Zb6 (Jm (show x<18446744073709551616 by omega)) ?_|refine Zb6 hr ?_|refine Zdh ?_|refine Zbb ?_|(apply p1g i;(iterate 4 exact rfl);rfl;omega)|refine Zbv ?_|refine V ?_|refine W2 ?_ ?_<;>intro hc
    exact Next.go ⟨i+1,m.set i ((c+x+0)%4294967296),(c+x+0)/4294967296⟩ ⟨by dsimp only;omega,Jn da db hinv hil (Nat.mod_lt _ (by decide)) (by rw[hx,List.getElem?_eq_none (by omega),Option.getD_some,Option.getD_none];dsimp only;omega)⟩ (by dsimp only;omega) (.cons rfl rfl (.cons rfl rfl (.cons (by rw[<-hq];rfl) rfl CV))) (.live (Aw _ _ _) .nil)
  ·have hia':¬(i:Int)<((wq a).length:Nat):=by omega
   have hib':¬(i:Int)<((wq b).length:Nat):=by omega
   have hr:IntKind.u32.wrap ((c:Int))=(((c+0+0)%4294967296:Nat):Int):=by rw[Di];omega
   have hq:((c:Int))/4294967296=(((c+0+0)/4294967296:Nat):Int):=by omega
   repeat' first|refine WY ?_|refine Zd0 ?_|refine Zb6 hr ?_|refine Zdh ?_|refine Zbb ?_|(apply p1g i;(iterate 4 exact rfl);rfl;omega)|refine Zbv ?_|refine V ?_|refine W2 ?_ ?_<;>intro hc
   exact Next.go ⟨i+1,m.set i ((c+0+0)%4294967296),(c+0+0)/4294967296⟩ ⟨by dsimp only;omega,Jn da db hinv hil (Nat.mod_lt _ (by decide)) (by rw[List.getElem?_eq_none (by omega),List.getElem?_eq_none (by omega),Option.getD_none];dsimp only;omega)⟩ (by dsimp only;omega) (.cons rfl rfl (.cons rfl rfl (.cons (by rw[<-hq];rfl) rfl CV))) (.live (Aw _ _ _) .nil)
 ·have h3:¬(i:Int)<((a.length+1:Nat):Int):=by omega
  obtain rfl:i=a.length+1:=by omega
  repeat' first|refine W ?_|(refine T.freeze 5 rfl rfl (G5 .u32 m hm.symm) ?_)|refine Zbi (H2 m (val a+val b) hdm (by omega) (A4p hle da db hinv')) ?_|refine V ?_|refine W2 ?_ ?_<;>intro hc
  exact E5 (by simp) Tryz.results287 rfl (.one (.one (.lf _)))
theorem Aak(a b:Nat)(ha:(wds a).length<=1000)(hb:(wds b).length<=1000):Fz 287 [.sl (wq (wds a)),.sl (wq (wds b))] (.sl (wq (wds (a+b)))):=by
 rcases a0y (wds a).length (wds b).length with h|h
 ·have:=A27 (wds b) (wds a) (wds_dig b) (wds_dig a) hb h
  rwa[wds_val,wds_val,a9x b a]at this
 ·have:=A26 (wds a) (wds b) (wds_dig a) (wds_dig b) ha h
  rwa[wds_val,wds_val]at this
theorem A45(a b:List Nat)(da:Dig a)(db:Dig b)(hla:a.length<=1000)(hle:b.length<=a.length)(hv:val b<=val a):
  Fz 289 [.sl (wq a),.sl (wq b)] (.sl (wq (wds (val a-val b)))):=by
 have e1:(wq a).length=a.length:=B7 _ _
 have e2:(wq b).length=b.length:=B7 _ _
 have h1:(((wq a).length:Nat):Int)=((a.length:Nat):Int):=by omega
 refine Fo Tryz.func289 ?_
 repeat' first|refine WY ?_|refine Zbb ?_|(apply p3d (n:=a.length);exact rfl;rw[<-h1];exact rfl;omega;exact rfl;exact rfl)|refine V ?_|refine W2 ?_ ?_<;>intro hc
 refine p0c (fun(s:AddS)=>s.i<=a.length/\Qi a b s.m s.i s.c) (fun s=>a.length-s.i) (fun s=>[(14,.i s.i),(13,.i ((wq a).length:Nat)),(6,.i (s.c:Int)),(5,.own 0 0 a.length 1),(0,.sl (wq a)),(1,.sl (wq b))]) (fun s=>[.live (wsA .u32 s.m)]) ⟨0,List.replicate a.length 0,0⟩ ⟨a0k _,Acb a b⟩ CV (.live (Aw _ _ _) .nil) ?_
 rintro⟨i,m,c⟩ ⟨hi,hinv⟩
 dsimp only at hi hinv⊢
 have hinv':=hinv
 obtain⟨hm,hdm,_,_,hc1⟩:=hinv
 by_cases hil:i<m.length
 ·have hinv:=hinv'
  have h3:(i:Int)<((wq a).length:Nat):=by omega
  obtain⟨x,hx⟩:∃x,a[i]?=some x:=⟨a[i]'(by omega),a0b (by omega)⟩
  have hbx:=Ez (k:=.u32) hx
  have hxl:=da.get hx
  have hcx:IntKind.i64.wrap (x:Int)=(x:Int):=Dy _ (by omega)
  by_cases hib:i<b.length
  ·obtain⟨y,hy⟩:∃y,b[i]?=some y:=⟨b[i],a0b hib⟩
   have hby:=Ez (k:=.u32) hy
   have hyl:=db.get hy
   have hcy:IntKind.i64.wrap (y:Int)=(y:Int):=Dy _ (by omega)
   have hib':(i:Int)<((wq b).length:Nat):=by omega
   by_cases hn:(x:Int)-c-y<0
   ·have hr:IntKind.u32.wrap ((x:Int)-c-y+4294967296)=((x+4294967296-c-y:Nat):Int):=by rw[Di];omega
    repeat' first|refine WY ?_|refine Zb6 hcx ?_|refine Zb6 hcy ?_|refine Zb6 hr ?_|refine Zbb ?_|(apply p1g i;(iterate 4 exact rfl);rfl;omega)|refine Zbv ?_|refine V ?_|refine W2 ?_ ?_<;>intro hc
    exact Next.go ⟨i+1,m.set i (x+4294967296-c-y),1⟩ ⟨by dsimp only;omega,Q4 hinv hil (by omega) (by dsimp only;omega) (by rw[hx,hy,Option.getD_some,Option.getD_some];dsimp only;omega)⟩ (by dsimp only;omega) CV (.live (Aw _ _ _) .nil)
   ·have hr:IntKind.u32.wrap ((x:Int)-c-y)=((x-c-y:Nat):Int):=by rw[Di];omega
    repeat' first|refine WY ?_|refine Zb6 hcx ?_|refine Zb6 hcy ?_|refine Zb6 hr ?_|refine Zbb ?_|(apply p1g i;(iterate 4 exact rfl);rfl;omega)|refine Zbv ?_|refine V ?_|refine W2 ?_ ?_<;>intro hc
    exact Next.go ⟨i+1,m.set i (x-c-y),0⟩ ⟨by dsimp only;omega,Q4 hinv hil (by omega) (by dsimp only;omega) (by rw[hx,hy,Option.getD_some,Option.getD_some];dsimp only;omega)⟩ (by dsimp only;omega) CV (.live (Aw _ _ _) .nil)
  ·have hib':¬(i:Int)<((wq b).length:Nat):=by omega
   by_cases hn:(x:Int)-c<0
   ·have hr:IntKind.u32.wrap ((x:Int)-c+4294967296)=((x+4294967296-c:Nat):Int):=by rw[Di];omega
    repeat' first|refine WY ?_|refine Zb6 hcx ?_|refine Zb6 hr ?_|refine Zbb ?_|(apply p1g i;(iterate 4 exact rfl);rfl;omega)|refine Zbv ?_|refine V ?_|refine W2 ?_ ?_<;>intro hc
    exact Next.go ⟨i+1,m.set i (x+4294967296-c),1⟩ ⟨by dsimp only;omega,Q4 hinv hil (by omega) (by dsimp only;omega) (by rw[hx,List.getElem?_eq_none (by omega),Option.getD_some,Option.getD_none];dsimp only;omega)⟩ (by dsimp only;omega) CV (.live (Aw _ _ _) .nil)
   ·have hr:IntKind.u32.wrap ((x:Int)-c)=((x-c:Nat):Int):=by rw[Di];omega
    repeat' first|refine WY ?_|refine Zb6 hcx ?_|refine Zb6 hr ?_|refine Zbb ?_|(apply p1g i;(iterate 4 exact rfl);rfl;omega)|refine Zbv ?_|refine V ?_|refine W2 ?_ ?_<;>intro hc
    exact Next.go ⟨i+1,m.set i (x-c),0⟩ ⟨by dsimp only;omega,Q4 hinv hil (by omega) (by dsimp only;omega) (by rw[hx,List.getElem?_eq_none (by omega),Option.getD_some,Option.getD_none];dsimp only;omega)⟩ (by dsimp only;omega) CV (.live (Aw _ _ _) .nil)
 ·have h3:¬(i:Int)<((wq a).length:Nat):=by omega
  obtain rfl:i=a.length:=by omega
  repeat' first|refine W ?_|(refine T.freeze 5 rfl rfl (G5 .u32 m hm.symm) ?_)|refine Zbi (H2 m (val a-val b) hdm (by omega) (Ah8 hle hv hinv')) ?_|refine V ?_|refine W2 ?_ ?_<;>intro hc
  exact E5 (by simp) Tryz.results289 rfl (.one (.one (.lf _)))
theorem Z2(a b:Nat)(ha:(wds a).length<=1000)(hab:b<=a):Fz 289 [.sl (wq (wds a)),.sl (wq (wds b))] (.sl (wq (wds (a-b)))):=by
 have:=A45 (wds a) (wds b) (wds_dig a) (wds_dig b) ha (trim_le (wds_trim b) (wds_dig a) (by rw[wds_val,wds_val];exact hab)) (by rw[wds_val,wds_val];exact hab)
 rwa[wds_val,wds_val]at this
def Nh(a b:List Nat):Nat->Int
 |0=>0
 |k+1=>if a[k]?.getD 0=b[k]?.getD 0 then Nh a b k else if a[k]?.getD 0<b[k]?.getD 0 then-1 else 1
def Ol(a b:List Nat):Int:=if a.length≠b.length then(a.length:Int)-b.length else Nh a b a.length
theorem A0y{a b:List Nat}(da:Dig a)(db:Dig b):∀k:Nat,(Nh a b k<0↔val (a.take k)<val (b.take k))
 |0=>by simp[Nh,val]
 |k+1=>by
  have ih:=A0y da db k
  have h1:=val_lt _ (da.take k)
  have h2:=val_lt _ (db.take k)
  have h3:(4294967296:Nat)^(a.take k).length<=4294967296^k:=a1s (by decide) (by rw[a0x];omega)
  have h4:(4294967296:Nat)^(b.take k).length<=4294967296^k:=a1s (by decide) (by rw[a0x];omega)
  rw[Bj,Bj]
  simp only[Nh]
  generalize a[k]?.getD 0=x
  generalize b[k]?.getD 0=y
  split
  ·subst_vars
   rw[ih];omega
  ·split
   ·have:4294967296^k*(x+1)<=4294967296^k*y:=a3a _ (by omega)
    rw[a2m]at this
    constructor
    ·intro _;omega
    ·intro _;decide
   ·have:4294967296^k*(y+1)<=4294967296^k*x:=a3a _ (by omega)
    rw[a2m]at this
    constructor
    ·intro h;exact absurd h (by decide)
    ·intro h;omega
theorem A0z(a b:Nat):(Ol (wds a) (wds b)<0↔a<b):=by
 unfold Ol
 split
 ·rename_i h
  constructor
  ·intro h1
   have:=Ip (wds_trim b) (wds_dig a) (show(wds a).length<(wds b).length by omega)
   rwa[wds_val,wds_val]at this
  ·intro h1
   rcases a0y (wds b).length (wds a).length with h2|h2
   ·have:=Ip (wds_trim a) (wds_dig b) h2
    rw[wds_val,wds_val]at this
    omega
   ·omega
 ·rename_i h
  rw[A0y (wds_dig a) (wds_dig b),a0g (a0n _),a0g (by omega),wds_val,wds_val]
theorem Xr(a b:List Nat)(hla:a.length<=1000)(hlb:b.length<=1000):Fz 288 [.sl (wq a),.sl (wq b)] (.i (Ol a b)):=by
 have e1:(wq a).length=a.length:=B7 _ _
 have e2:(wq b).length=b.length:=B7 _ _
 by_cases hne:(((wq a).length:Nat):Int)=((wq b).length:Nat)
 ·skip
  refine Fo Tryz.func288 ?_
  repeat' first|refine WX ?_|refine W2 ?_ ?_<;>intro hc
  refine p0c (fun k=>k<=a.length/\Nh a b k=Nh a b a.length) (fun k=>k) (fun k=>[(5,.i ((k:Int)-1)),(0,.sl (wq a)),(1,.sl (wq b))]) (fun _=>[]) a.length ⟨a0n _,rfl⟩ (.cons (by rw[<-e1];rfl) rfl CV) .nil ?_
  rintro k ⟨hk,hv⟩
  cases k with
  |zero=>
   have h0:¬(0:Int)<=((0:Nat):Int)-1:=by omega
   repeat' first|refine WX ?_|refine W2 ?_ ?_<;>intro hc
   exact Dd rfl rfl (by rw[Ol,if_neg (by omega),<-hv];rfl)
  |succ k=>
   have h1:(0:Int)<=((k+1:Nat):Int)-1:=by omega
   have h2:((((k+1:Nat):Int)-1).toNat)=k:=by omega
   obtain⟨x,hx⟩:∃x,a[k]?=some x:=⟨a[k]'(by omega),a0b (by omega)⟩
   obtain⟨y,hy⟩:∃y,b[k]?=some y:=⟨b[k]'(by omega),a0b (by omega)⟩
   have hbx:(wq a)[(((k+1:Nat):Int)-1).toNat]?=some [.val (.int .u32 (x:Int))]:=by rw[h2];exact Oc hx
   have hby:(wq b)[(((k+1:Nat):Int)-1).toNat]?=some [.val (.int .u32 (y:Int))]:=by rw[h2];exact Oc hy
   have hK:Nh a b (k+1)=if x=y then Nh a b k else if x<y then-1 else 1:=by simp only[Nh,hx,hy,a1a]
   by_cases hxy:(x:Int)=(y:Int)
   ·repeat' first|refine WY ?_|refine Da ?_|refine V ?_|refine W2 ?_ ?_<;>intro hc
    exact Next.go k ⟨by omega,by rw[<-hv,hK,if_pos (by omega)]⟩ (a3n k) (.cons (by rw[show((k:Nat):Int)-1=((k+1:Nat):Int)-1-1 by omega];rfl) rfl CV) .nil
   ·by_cases hlt:(x:Int)<(y:Int)
    ·repeat' first|refine WY ?_|refine Da ?_|refine V ?_|refine W2 ?_ ?_<;>intro hc
     exact Dd rfl rfl (by rw[Ol,if_neg (by omega),<-hv,hK,if_neg (by omega),if_pos (by omega)])
    ·repeat' first|refine WY ?_|refine Da ?_|refine V ?_|refine W2 ?_ ?_<;>intro hc
     exact Dd rfl rfl (by rw[Ol,if_neg (by omega),<-hv,hK,if_neg (by omega),if_neg (by omega)])
 ·skip
  refine Fo Tryz.func288 ?_
  repeat' first|refine WX ?_|refine W2 ?_ ?_<;>intro hc
  exact Dd rfl rfl (by rw[Ol,if_pos (by omega),e1,e2])
abbrev Gt(s:Bool)(n:Nat):List Lf:=[.val (.bool s),.sl (wq (wds n))]
theorem Ae5(s:Bool)(n:Nat):Fz 183 [A0 (Gt s n)] (.i (if n=0 then 0 else if s then-1 else 1)):=by
 by_cases h0:n=0
 ·subst h0
  have h:(((wq (wds 0)).length:Nat):Int)=0:=by rw[B7,wds_zero];rfl
  refine Fo Tryz.func183 ?_
  repeat' first|refine WX ?_|refine W2 ?_ ?_<;>intro hc
  exact Dd rfl rfl (by simp)
 ·have h:¬(((wq (wds n)).length:Nat):Int)=0:=fun e=>h0 (wds_nil.1 (a0z (by rw[B7]at e;omega)))
  cases s<;>
  ·skip
   refine Fo Tryz.func183 ?_
   repeat' first|refine WX ?_|refine W2 ?_ ?_<;>intro hc
   exact Dd rfl rfl (by simp[h0])
theorem A28(s:Bool)(n:Nat):Fz 247 [A0 (Gt s n)] (A0 (Gt (!s) n)):=by
 refine Fo Tryz.func247 ?_
 repeat' first|refine W ?_|refine Da ?_|refine V ?_|refine W2 ?_ ?_<;>intro hc
 exact D4 rfl rfl rfl rfl rfl rfl
end Go.Proofs.YtcaicpnepfjcmaaGreat
