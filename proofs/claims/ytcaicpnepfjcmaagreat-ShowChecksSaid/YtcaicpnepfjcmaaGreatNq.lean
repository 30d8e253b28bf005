/- Lemmas of the proof. -/
import Derived.Test.YtcaicpnepfjcmaaGreatNk
set_option linter.all false
set_option maxHeartbeats 64000000
namespace Go.Proofs.YtcaicpnepfjcmaaGreat
def a2j:= @Rat.mul_neg_iff_of_pos_left
def a4b:= @Rat.mul_pos_iff_of_pos_left
def a7i:= @Rat.mul_nonneg
def a8d:= @Decidable.byContradiction
def b0b:= @Tryz.func222
def b0l:= @Rat.mul_le_mul_of_nonneg_left
def b0t:= @Rat.intCast_pos
def b0u:= @Rat.le_antisymm
def b0v:= @Rat.mul_pos
def b1i:= @Rat.le_of_mul_le_mul_left
def b2c:= @Tryz.func129
def b2h:= @Tryz.func210
end Go.Proofs.YtcaicpnepfjcmaaGreat
namespace Go.Proofs.YtcaicpnepfjcmaaGreat.R24

def val:List Nat->Nat
 |[]=>0
 |d::r=>d+16777216*val r
def Dig(l:List Nat):Prop:=∀x∈l,x<16777216
theorem E1:∀(a b:List Nat),val (a++b)=val a+16777216^a.length*val b
 |[],b=>by simp[val]
 |d::r,b=>by
  simp only[a3g,val,E1 r b,a0j,a3c,a2m]
  rw[a6d (16777216^r.length) 16777216,a2v]
  omega
theorem val_lt:∀(l:List Nat),Dig l->val l<16777216^l.length
 |[],_=>by simp[val]
 |d::r,h=>by
  have h1:=val_lt r fun x hx=>h x (by simp[hx])
  have h2:=h d (by simp)
  simp only[val,a0j,a3c]
  omega
theorem Dig.take{l:List Nat}(h:Dig l)(k:Nat):Dig (l.take k):=fun x hx=>h x (a3j hx)
theorem Dig.get{l:List Nat}(h:Dig l){i x:Nat}(hx:l[i]?=some x):x<16777216:=h x (a0a hx)
theorem Dig.set{l:List Nat}(h:Dig l)(i:Nat){x:Nat}(hx:x<16777216):Dig (l.set i x):=fun y hy=>by
 rcases b1h hy with h1|h1
 ·exact h y h1
 ·rw[h1];exact hx
theorem Cw{l:List Nat}{i x:Nat}(hx:l[i]?=some x):val (l.take (i+1))=val (l.take i)+16777216^i*x:=by
 have hi:i<l.length:=(a0f.1 hx).1
 rw[a0u,hx,E1]
 simp[val,a5m (Nat.le_of_lt hi)]
theorem A02(l:List Nat)(k:Nat)(hk:k<=l.length):val l=val (l.take k)+16777216^k*val (l.drop k):=by
 have:=E1 (l.take k) (l.drop k)
 rw[a4i,a0x,a5m hk]at this
 exact this
theorem J3:∀(l:List Nat)(i x y:Nat),l[i]?=some y->val (l.set i x)+16777216^i*y=val l+16777216^i*x
 |[],i,x,y,h=>by simp at h
 |d::r,0,x,y,h=>by
  simp at h;subst h
  simp only[a5f,val,Nat.pow_zero,b0q];omega
 |d::r,i+1,x,y,h=>by
  have:=J3 r i x y (by simpa using h)
  simp only[a5e,val,a3c]
  rw[a6d (16777216^i) 16777216,a2v,a2v]
  omega
theorem Ha:∀n:Nat,val (List.replicate n 0)=0
 |0=>rfl
 |n+1=>by simp[a6l,val,Ha n]
def Trim(l:List Nat):Prop:=∀x,l.getLast?=some x->x≠0
theorem Gb{l:List Nat}(h:Trim l)(hne:l≠[]):16777216^(l.length-1)<=val l:=by
 obtain⟨r,x,rfl⟩:∃r x,l=r++[x]:=⟨l.dropLast,l.getLast hne,(a5x hne).symm⟩
 have hx:x≠0:=h x (by simp)
 rw[E1]
 simp only[a0s,a6b,a9h,val,a8r,a3b]
 have:16777216^r.length*1<=16777216^r.length*x:=a3a _ (by omega)
 omega
theorem Ip{a b:List Nat}(ta:Trim a)(db:Dig b)(h:b.length<a.length):val b<val a:=by
 have h1:=Gb ta (by intro e;rw[e]at h;simp at h)
 have h2:=val_lt b db
 have h3:(16777216:Nat)^b.length<=16777216^(a.length-1):=a1s (by decide) (by omega)
 omega
theorem Rt{l:List Nat}(h:Trim l):val l=0↔l=[]:=by
 constructor
 ·intro h0
  by_cases he:l=[]
  ·exact he
  ·have h1:=Gb h he
   have h2:0<(16777216:Nat)^(l.length-1):=Nat.pow_pos (by decide)
   omega
 ·rintro rfl;rfl
theorem V0:Trim []:=fun x h=>by simp at h
theorem val_take_zero{l:List Nat}{k:Nat}(hk:l[k]?=some 0):val (l.take (k+1))=val (l.take k):=by
 rw[Cw hk];simp
theorem trim_take{l:List Nat}{k x:Nat}(hk:l[k]?=some x)(hx:x≠0):Trim (l.take (k+1)):=fun y hy=>by
 rw[a0u,hk]at hy
 simp at hy
 omega
/-! ### Sums -/
theorem Bj(l:List Nat)(i:Nat):val (l.take (i+1))=val (l.take i)+16777216^i*l[i]?.getD 0:=by
 cases h:l[i]? with
 |none=>
  have:=b1g.1 h
  rw[a0g (by omega),a0g (by omega)]
  simp
 |some x=>rw[Cw h];rfl
theorem get_lt{a:List Nat}(da:Dig a)(i:Nat):a[i]?.getD 0<16777216:=by
 cases e:a[i]? with
 |none=>simp
 |some x=>exact da.get e
/-! ### Differences -/
theorem trim_le{a b:List Nat}(tb:Trim b)(da:Dig a)(h:val b<=val a):b.length<=a.length:=by
 rcases a0y a.length b.length with h1|h1
 ·have:=Ip tb da h1;omega
 ·exact h1

/-! ### Products -/
def wds(n:Nat):List Nat:=if h:n=0 then[]else n%16777216::wds (n/16777216)
termination_by n
decreasing_by omega
theorem wds_zero:wds 0=[]:=by rw[wds];simp
theorem wds_pos{n:Nat}(h:n≠0):wds n=n%16777216::wds (n/16777216):=by rw[wds,dif_neg h]
theorem Rs{d:Nat}{r:List Nat}(h:Trim (d::r)):Trim r:=fun x hx=>h x (by
 cases r with
 |nil=>simp at hx
 |cons y r=>rw[a6t];exact hx)
theorem wds_uniq:∀l:List Nat,Dig l->Trim l->wds (val l)=l
 |[],_,_=>wds_zero
 |d::r,hd,ht=>by
  have h1:=hd d (by simp)
  have h0:val (d::r)≠0:=fun h=>by have:=(Rt ht).1 h;cases this
  have e1:val (d::r)%16777216=d:=by simp only[val];omega
  have e2:val (d::r)/16777216=val r:=by simp only[val];omega
  rw[wds_pos h0,e1,e2,wds_uniq r (fun x hx=>hd x (by simp[hx])) (Rs ht)]
theorem wds_dig(n:Nat):Dig (wds n):=by
 induction n using Nat.strongRecOn with
 |_ n ih=>
  by_cases h:n=0
  ·subst h;rw[wds_zero];intro x hx;simp at hx
  ·rw[wds_pos h]
   intro x hx
   rcases a1q.1 hx with rfl|hx
   ·omega
   ·exact ih (n/16777216) (by omega) x hx
theorem wds_val(n:Nat):val (wds n)=n:=by
 induction n using Nat.strongRecOn with
 |_ n ih=>
  by_cases h:n=0
  ·subst h;rw[wds_zero];rfl
  ·rw[wds_pos h,val,ih (n/16777216) (by omega)];omega
theorem wds_trim(n:Nat):Trim (wds n):=by
 induction n using Nat.strongRecOn with
 |_ n ih=>
  by_cases h:n=0
  ·subst h;rw[wds_zero];exact V0
  ·rw[wds_pos h]
   intro x hx
   by_cases h2:n/16777216=0
   ·rw[h2,wds_zero]at hx
    simp at hx
    omega
   ·have:=ih (n/16777216) (by omega) x
    rw[wds_pos h2]at hx this
    rw[a6t]at hx
    exact this hx
theorem wds_len{n k:Nat}(h:n<16777216^k):(wds n).length<=k:=by
 rcases a0y k (wds n).length with h1|h1
 ·have h2:=Gb (wds_trim n) (by intro e;rw[e]at h1;simp at h1)
  rw[wds_val]at h2
  have h3:(16777216:Nat)^k<=16777216^((wds n).length-1):=a1s (by decide) (by omega)
  omega
 ·exact h1
theorem wds_nil{n:Nat}:wds n=[]↔n=0:=by
 constructor
 ·intro h
  have:=wds_val n
  rw[h]at this
  exact this.symm
 ·rintro rfl;exact wds_zero
/-! ### Lists that grow -/
theorem V4(l:List Nat)(d:Nat):val (l++[d])=val l+16777216^l.length*d:=by
 rw[E1];simp[val]
theorem Dig.snoc{l:List Nat}(h:Dig l){d:Nat}(hd:d<16777216):Dig (l++[d]):=fun x hx=>by
 rcases a0p.1 hx with hx|hx
 ·exact h x hx
 ·obtain rfl:x=d:=by simpa using hx
  exact hd
theorem A4m{l:List Nat}(hd:Dig l)(h:l≠[]->16777216^(l.length-1)<=val l):Trim l:=by
 intro x hx hx0
 subst hx0
 have hne:l≠[]:=by rintro rfl;simp at hx
 obtain⟨r,y,rfl⟩:∃r x,l=r++[x]:=⟨l.dropLast,l.getLast hne,(a5x hne).symm⟩
 obtain rfl:y=0:=by simpa using hx
 have h1:=h hne
 have h2:=val_lt r fun x hx=>hd x (by simp[hx])
 rw[V4]at h1
 simp at h1
 omega
def pw:Nat->Nat->List Nat
 |0,_=>[]
 |k+1,n=>n%16777216::pw k (n/16777216)
theorem A60:∀l:List Nat,Dig l->pw l.length (val l)=l
 |[],_=>rfl
 |d::r,hd=>by
  have h1:=hd d (by simp)
  have e1:val (d::r)%16777216=d:=by simp only[val];omega
  have e2:val (d::r)/16777216=val r:=by simp only[val];omega
  rw[a0j,pw,e1,e2,A60 r fun x hx=>hd x (by simp[hx])]
theorem pw_len:∀k n:Nat,(pw k n).length=k
 |0,_=>rfl
 |k+1,n=>by rw[pw,a0j,pw_len k]
theorem pw_dig:∀k n:Nat,Dig (pw k n)
 |0,_=>fun x hx=>by simp[pw]at hx
 |k+1,n=>fun x hx=>by
  rw[pw]at hx
  rcases a1q.1 hx with rfl|hx
  ·omega
  ·exact pw_dig k _ x hx
theorem pw_val:∀k n:Nat,n<16777216^k->val (pw k n)=n
 |0,n,h=>by simp[pw,val]at*;omega
 |k+1,n,h=>by
  rw[pw,val,pw_val k _ (by rw[a3c]at h;exact Nat.div_lt_of_lt_mul (by rw[a6d];exact h))]
  omega
structure PlusInv(a b m:List Nat)(i c:Nat):Prop where
 len:m.length=i
 dig:Dig m
 eq:val m+16777216^i*c=val (a.take i)+val (b.take i)
 c1:c<=1
 low:i≠0->16777216^(i-1)<=val a+val b
theorem plus_start(a b:List Nat):PlusInv a b [] 0 0:=⟨rfl,fun x hx=>by simp at hx,by simp[val],by omega,fun h=>absurd rfl h⟩
theorem A6m(a:List Nat)(i:Nat):val (a.take i)<=val a:=by
 rcases a0y i a.length with h|h
 ·have:=A02 a i (by omega);omega
 ·rw[a0g h];exact a0n _
theorem plus_step{a b m:List Nat}{i c:Nat}(da:Dig a)(db:Dig b)(ta:Trim a)(tb:Trim b)(h:PlusInv a b m i c)(hi:i<a.length\/i<b.length\/0<c):
  PlusInv a b (m++[(a[i]?.getD 0+b[i]?.getD 0+c)%16777216]) (i+1) ((a[i]?.getD 0+b[i]?.getD 0+c)/16777216):=by
 obtain⟨h1,h2,h3,h4,h5⟩:=h
 have ha:=get_lt da i
 have hb:=get_lt db i
 refine⟨by simp[h1],h2.snoc (a5n _ (by decide)),?_,by omega,fun _=>?_⟩
 ·rw[V4,Bj,Bj,a3c,h1]
  generalize a[i]?.getD 0=x at*
  generalize b[i]?.getD 0=y at*
  have e:(x+y+c)%16777216+16777216*((x+y+c)/16777216)=x+y+c:=by omega
  have:16777216^i*((x+y+c)%16777216)+16777216^i*16777216*((x+y+c)/16777216)=16777216^i*x+16777216^i*y+16777216^i*c:=by
   rw[a2v,<-a2m,e,a2m,a2m]
  omega
 ·rw[a9h]
  rcases hi with hi|hi|hi
  ·have h6:=Gb ta (by intro e;rw[e]at hi;simp at hi)
   have:(16777216:Nat)^i<=16777216^(a.length-1):=a1s (by decide) (by omega)
   omega
  ·have h6:=Gb tb (by intro e;rw[e]at hi;simp at hi)
   have:(16777216:Nat)^i<=16777216^(b.length-1):=a1s (by decide) (by omega)
   omega
  ·have h6:=A6m a i
   have h7:=A6m b i
   have:16777216^i*1<=16777216^i*c:=a3a _ hi
   omega
theorem plus_end{a b m:List Nat}{i:Nat}(h:PlusInv a b m i 0)(ha:a.length<=i)(hb:b.length<=i):m=wds (val a+val b):=by
 obtain⟨h1,h2,h3,h4,h5⟩:=h
 rw[a0g ha,a0g hb,a8r,a3b]at h3
 rw[<-h3]
 refine(wds_uniq m h2 (A4m h2 fun hne=>?_)).symm
 rw[h3,h1]
 exact h5 (by intro e;rw[e]at h1;exact hne (a0z h1))
theorem plus_len{a b m:List Nat}{i c:Nat}(da:Dig a)(db:Dig b)(h:PlusInv a b m i c)(hi:i<a.length\/i<b.length\/0<c):i<=max a.length b.length:=by
 rcases hi with hi|hi|hi
 ·omega
 ·omega
 ·rcases a0y (max a.length b.length) i with h1|h1
  ·have ea:=val_lt a da
   have eb:=val_lt b db
   have h3:=h.eq
   rw[a0g (by omega),a0g (by omega)]at h3
   have p1:(16777216:Nat)^a.length*16777216<=16777216^i:=by rw[<-a3c];exact a1s (by decide) (by omega)
   have p2:(16777216:Nat)^b.length*16777216<=16777216^i:=by rw[<-a3c];exact a1s (by decide) (by omega)
   have:16777216^i*1<=16777216^i*c:=a3a _ hi
   omega
  ·exact h1
structure MinusInv(a b m:List Nat)(i c:Nat):Prop where
 len:m.length=i
 dig:Dig m
 eq:val m+val (b.take i)=val (a.take i)+16777216^i*c
 c1:c<=1
theorem minus_start(a b:List Nat):MinusInv a b [] 0 0:=⟨rfl,fun x hx=>by simp at hx,by simp[val],by omega⟩
theorem minus_step{a b m:List Nat}{i c d c':Nat}(h:MinusInv a b m i c)(hd:d<16777216)(hc:c'<=1)(he:d+c+b[i]?.getD 0=a[i]?.getD 0+16777216*c'):MinusInv a b (m++[d]) (i+1) c':=by
 obtain⟨h1,h2,h3,h4⟩:=h
 refine⟨by simp[h1],h2.snoc hd,?_,hc⟩
 rw[V4,Bj,Bj,a3c,h1]
 generalize a[i]?.getD 0=x at*
 generalize b[i]?.getD 0=y at*
 have:16777216^i*d+16777216^i*c+16777216^i*y=16777216^i*x+16777216^i*16777216*c':=by
  rw[a2v,<-a2m,<-a2m,he,a2m]
 omega
theorem minus_end{a b m:List Nat}{c:Nat}(hl:b.length<=a.length)(hv:val b<=val a)(h:MinusInv a b m a.length c):m=pw a.length (val a-val b):=by
 obtain⟨h1,h2,h3,h4⟩:=h
 rw[a0g hl,a0g (a0n _)]at h3
 have l1:=val_lt m h2
 rw[h1]at l1
 have e:val m=val a-val b:=by
  rcases a0y 0 c with hc|hc
  ·have:16777216^a.length*1<=16777216^a.length*c:=a3a _ hc
   omega
  ·obtain rfl:c=0:=by omega
   omega
 rw[<-e,<-h1,A60 m h2]
/-! ### The reference's product -/
structure MulR(a b m:List Nat)(i:Nat):Prop where
 len:m.length=a.length+b.length+1
 dig:Dig m
 eq:val m=val (a.take i)*val b
structure MulRI(a b m:List Nat)(i x k c:Nat):Prop where
 len:m.length=a.length+b.length+1
 dig:Dig m
 eq:val m+16777216^(i+k)*c=val (a.take i)*val b+16777216^i*x*val (b.take k)
 cd:c<16777216
theorem mulR_start(a b:List Nat):MulR a b (List.replicate (a.length+b.length+1) 0) 0:=⟨by simp,fun x hx=>by rw[a6n hx];decide,by simp[Ha,val]⟩
theorem mulR_in{a b m:List Nat}{i:Nat}(x:Nat)(h:MulR a b m i):MulRI a b m i x 0 0:=⟨h.len,h.dig,by simp[val,h.eq],by decide⟩
theorem mulR_step{a b m:List Nat}{i x k c z q r:Nat}(h:MulRI a b m i x k c)(hz:m[i+k]?=some z)(hr:r<16777216)(hq:16777216*q+r=z+x*b[k]?.getD 0+c)(hqd:q<16777216):
  MulRI a b (m.set (i+k) r) i x (k+1) q:=by
 obtain⟨h1,h2,h4,h5⟩:=h
 refine⟨by simpa using h1,h2.set _ hr,?_,hqd⟩
 have e:=J3 m (i+k) r z hz
 have e4:(16777216:Nat)^(i+(k+1))=16777216^(i+k)*16777216:=by rw[<-a1t,a3c]
 rw[Bj,e4]
 generalize b[k]?.getD 0=y at*
 have e2:16777216^(i+k)*16777216*q+16777216^(i+k)*r=16777216^(i+k)*z+16777216^(i+k)*(x*y)+16777216^(i+k)*c:=by
  rw[a2v,<-a2m,hq,a2m,a2m]
 have e3:16777216^i*x*(val (b.take k)+16777216^k*y)=16777216^i*x*val (b.take k)+16777216^(i+k)*(x*y):=by
  rw[a2m,a9e]
  congr 1
  rw[a2v,a2v]
  congr 1
  rw[<-a2v,a6d x,a2v]
 rw[e3]
 omega
theorem mulR_fits{x y z c:Nat}(hx:x<16777216)(hy:y<16777216)(hz:z<16777216)(hc:c<16777216):x*y<=281474943156225/\(z+x*y+c)/16777216<16777216:=by
 have hxy:x*y<=16777215*16777215:=a5u (by omega) (by omega)
 omega
theorem mulR_none{a b m:List Nat}{i x k c:Nat}(da:Dig a)(db:Dig b)(hi:a[i]?=some x)(h:MulRI a b m i x k c)(hk:b.length<k):c=0:=by
 have h4:=h.eq
 rw[a0g (by omega:b.length<=k),<-a3u,<-Cw hi]at h4
 have l1:=val_lt _ (da.take (i+1))
 have l2:=val_lt b db
 have hlen:(a.take (i+1)).length=i+1:=by
  have:=(a0f.1 hi).1
  simp;omega
 rw[hlen]at l1
 have l3:val (a.take (i+1))*val b<16777216^(i+1)*16777216^b.length:=b0k l1 l2
 rw[<-a9e]at l3
 have l4:(16777216:Nat)^(i+1+b.length)<=16777216^(i+k):=a1s (by decide) (by omega)
 rcases a0y 0 c with hc|hc
 ·have:16777216^(i+k)*1<=16777216^(i+k)*c:=a3a _ hc
  omega
 ·omega
theorem mulR_out{a b m:List Nat}{i x k:Nat}(h:MulRI a b m i x k 0)(hi:a[i]?=some x)(hk:b.length<=k):MulR a b m (i+1):=by
 obtain⟨h1,h2,h4,h5⟩:=h
 refine⟨h1,h2,?_⟩
 rw[a0g hk,a8r,a3b,<-a3u,<-Cw hi]at h4
 exact h4
theorem mulR_end{a b m:List Nat}(h:MulR a b m a.length):val m=val a*val b:=by
 have:=h.eq
 rwa[a0g (a0n _)]at this
/-! ### Comparison -/
def lgK(a b:List Nat):Nat->Bool
 |0=>false
 |k+1=>if a[k]?.getD 0=b[k]?.getD 0 then lgK a b k else decide (b[k]?.getD 0<a[k]?.getD 0)
def lgL(a b:List Nat):Bool:=if a.length≠b.length then decide (b.length<a.length)else lgK a b a.length
theorem A5g{a b:List Nat}(da:Dig a)(db:Dig b):∀k:Nat,(lgK a b k=true↔val (b.take k)<val (a.take k))
 |0=>by simp[lgK,val]
 |k+1=>by
  have ih:=A5g da db k
  have h1:=val_lt _ (da.take k)
  have h2:=val_lt _ (db.take k)
  have h3:(16777216:Nat)^(a.take k).length<=16777216^k:=a1s (by decide) (by rw[a0x];omega)
  have h4:(16777216:Nat)^(b.take k).length<=16777216^k:=a1s (by decide) (by rw[a0x];omega)
  rw[Bj,Bj]
  simp only[lgK]
  generalize a[k]?.getD 0=x
  generalize b[k]?.getD 0=y
  split
  ·subst_vars
   rw[ih];omega
  ·rw[decide_eq_true_iff]
   constructor
   ·intro h
    have:16777216^k*(y+1)<=16777216^k*x:=a3a _ (by omega)
    rw[a2m]at this
    omega
   ·intro h
    rcases a0y y x with h5|h5
    ·exact h5
    ·have:16777216^k*(x+1)<=16777216^k*y:=a3a _ (by omega)
     rw[a2m]at this
     omega
theorem lgL_iff(a b:Nat):(lgL (wds a) (wds b)=true↔b<a):=by
 unfold lgL
 split
 ·rename_i h
  rw[decide_eq_true_iff]
  constructor
  ·intro h1
   have:=Ip (wds_trim a) (wds_dig b) h1
   rwa[wds_val,wds_val]at this
  ·intro h1
   rcases a0y (wds a).length (wds b).length with h2|h2
   ·have:=Ip (wds_trim b) (wds_dig a) h2
    rw[wds_val,wds_val]at this
    omega
   ·omega
 ·rename_i h
  rw[A5g (wds_dig a) (wds_dig b),a0g (a0n _),a0g (by omega),wds_val,wds_val]
end Go.Proofs.YtcaicpnepfjcmaaGreat.R24
namespace Go.Proofs.YtcaicpnepfjcmaaGreat
open Go Go.RowKit
abbrev w24(l:List Nat):List (List Lf):=wsR .i64 l
theorem Pq(l:List Nat)(i:Nat):Fz 273 [.sl (w24 l),.i (i:Int)] (.i ((l[i]?.getD 0:Nat):Int)):=by
 have e1:(w24 l).length=l.length:=B7 _ _
 by_cases h:i<l.length
 ·obtain⟨x,hx⟩:∃x,l[i]?=some x:=⟨l[i],a0b h⟩
  have hb:=Ez (k:=.i64) hx
  have h1:(i:Int)<((w24 l).length:Nat):=by omega
  rw[hx]
  refine Fo Tryz.func273 ?_
  repeat' first|refine WX ?_|refine W2 ?_ ?_<;>intro hc
  exact Dd rfl rfl rfl
 ·have h1:¬(i:Int)<((w24 l).length:Nat):=by omega
  rw[a0v (by omega)]
  refine Fo Tryz.func273 ?_
  repeat' first|refine WX ?_|refine W2 ?_ ?_<;>intro hc
  exact Dd rfl rfl rfl
abbrev bgR(s:Bool)(l:List Nat):List Lf:=[.val (.bool s),.sl (w24 l)]
theorem A69(s:Bool)(l:List Nat)(n:Nat)(hd:R24.Dig l)(hl:l.length<=5000)(hn:R24.val l=n):Fz 271 [A0 (bgR s l)] (A0 (bgR (s&&decide (n≠0)) (R24.wds n))):=by
 subst hn
 have e1:(w24 l).length=l.length:=B7 _ _
 refine Fo Tryz.func271 ?_
 repeat' first|refine WX ?_|refine W2 ?_ ?_<;>intro hc
 refine p0c (fun k=>k<=l.length/\R24.val (l.take k)=R24.val l) (fun k=>k) (fun k=>[(3,.i (k:Int)),(1,.ptr 0 0),(2,.ptr 1 0)]) (fun _=>[.live [.val (.bool s),.sl (w24 l)],.live [.val (.bool false),.val (.slice none 0 0)]]) l.length ⟨a0n _,by rw[a0g (a0n _)]⟩ (.cons (by rw[<-e1];rfl) rfl CV) CH ?_
 rintro k ⟨hk,hv⟩
 have ht:(w24 l).take ((k:Nat):Int).toNat=w24 (l.take k):=by rw[a0q,A3p]
 cases k with
 |zero=>
  have h0:¬(0:Int)<((0:Nat):Int):=by omega
  have hz:R24.val l=0:=by rw[<-hv];rfl
  rw[hz,R24.wds_zero,show bgR (s&&decide ((0:Nat)≠0)) []=[.val (.bool false),.sl ((w24 l).take ((0:Nat):Int).toNat)] by rw[ht];simp]
  have h2:((0:Nat):Int)=0:=rfl
  repeat' first|refine W ?_|refine Zdz ?_|refine V ?_|refine W2 ?_ ?_<;>intro hc
  exact D4 rfl rfl rfl rfl rfl rfl
 |succ k=>
  have h1:(0:Int)<((k+1:Nat):Int):=by omega
  have h2:¬((k+1:Nat):Int)=0:=by omega
  obtain⟨x,hx⟩:∃x,l[k]?=some x:=⟨l[k],a0b (by omega)⟩
  have hb:(w24 l)[(((k+1:Nat):Int)-1).toNat]?=some [.val (.int .i64 (x:Int))]:=by rw[show((((k+1:Nat):Int)-1).toNat)=k by omega];exact Oc hx
  by_cases h0:(x:Int)=0
  ·repeat' first|refine WX ?_|refine W2 ?_ ?_<;>intro hc
   have hx0:x=0:=by omega
   subst hx0
   exact Next.go k ⟨by omega,by rw[<-R24.val_take_zero hx,hv]⟩ (a3n k) (.cons (by rw[show(((k+1:Nat):Int))-1=(k:Int) by omega];rfl) rfl CV) CH
  ·have e:l.take (k+1)=R24.wds (R24.val l):=by rw[<-hv,R24.wds_uniq _ (hd.take _) (R24.trim_take hx (by omega))]
   have hne:R24.val l≠0:=fun h=>by
    rw[h,R24.wds_zero]at e
    have:=congrArg List.length e
    rw[a0x,a0m]at this
    omega
   rw[<-e,show(s&&decide (R24.val l≠0))=s by simp[hne],show bgR s (l.take (k+1))=[.val (.bool s),.sl ((w24 l).take ((k+1:Nat):Int).toNat)] by rw[ht]]
   repeat' first|refine WY ?_|refine Zdz ?_|refine V ?_|refine W2 ?_ ?_<;>intro hc
   exact D4 rfl rfl rfl rfl rfl rfl
theorem A4e(a b:List Nat)(hla:a.length<=4000)(hlb:b.length<=4000):Fz 270 [.sl (w24 a),.sl (w24 b)] (.b (R24.lgL a b)):=by
 have e1:(w24 a).length=a.length:=B7 _ _
 have e2:(w24 b).length=b.length:=B7 _ _
 by_cases hne:(((w24 a).length:Nat):Int)=((w24 b).length:Nat)
 ·skip
  refine Fo Tryz.func270 ?_
  repeat' first|refine WX ?_|refine W2 ?_ ?_<;>intro hc
  refine p0c (fun k=>k<=a.length/\R24.lgK a b k=R24.lgK a b a.length) (fun k=>k) (fun k=>[(5,.i ((k:Int)-1)),(0,.sl (w24 a)),(1,.sl (w24 b))]) (fun _=>[]) a.length ⟨a0n _,rfl⟩ (.cons (by rw[<-e1];rfl) rfl CV) .nil ?_
  rintro k ⟨hk,hv⟩
  cases k with
  |zero=>
   have h0:¬(0:Int)<=((0:Nat):Int)-1:=by omega
   repeat' first|refine WX ?_|refine W2 ?_ ?_<;>intro hc
   exact Dd rfl rfl (by rw[R24.lgL,if_neg (by omega),<-hv];rfl)
  |succ k=>
   have h1:(0:Int)<=((k+1:Nat):Int)-1:=by omega
   have h2:((((k+1:Nat):Int)-1).toNat)=k:=by omega
   obtain⟨x,hx⟩:∃x,a[k]?=some x:=⟨a[k]'(by omega),a0b (by omega)⟩
   obtain⟨y,hy⟩:∃y,b[k]?=some y:=⟨b[k]'(by omega),a0b (by omega)⟩
   have hbx:(w24 a)[(((k+1:Nat):Int)-1).toNat]?=some [.val (.int .i64 (x:Int))]:=by rw[h2];exact Oc hx
   have hby:(w24 b)[(((k+1:Nat):Int)-1).toNat]?=some [.val (.int .i64 (y:Int))]:=by rw[h2];exact Oc hy
   have hK:R24.lgK a b (k+1)=if x=y then R24.lgK a b k else decide (y<x):=by simp only[R24.lgK,hx,hy,a1a]
   by_cases hxy:(x:Int)=(y:Int)
   ·repeat' first|refine WY ?_|refine Da ?_|refine V ?_|refine W2 ?_ ?_<;>intro hc
    exact Next.go k ⟨by omega,by rw[<-hv,hK,if_pos (by omega)]⟩ (a3n k) (.cons (by rw[show((k:Nat):Int)-1=((k+1:Nat):Int)-1-1 by omega];rfl) rfl CV) .nil
   ·by_cases hlt:(y:Int)<(x:Int)
    ·repeat' first|refine WY ?_|refine Da ?_|refine V ?_|refine W2 ?_ ?_<;>intro hc
     all_goals exact Dd rfl rfl (congrArg Value.bool (by rw[R24.lgL,if_neg (by omega),<-hv,hK,if_neg (by omega)]<;>exact decide_eq_decide.2 (by omega)))
    ·repeat' first|refine WY ?_|refine Da ?_|refine V ?_|refine W2 ?_ ?_<;>intro hc
     all_goals exact Dd rfl rfl (congrArg Value.bool (by rw[R24.lgL,if_neg (by omega),<-hv,hK,if_neg (by omega)]<;>exact decide_eq_decide.2 (by omega)))
 ·skip
  refine Fo Tryz.func270 ?_
  repeat' first|refine WX ?_|refine W2 ?_ ?_<;>intro hc
  all_goals exact Dd rfl rfl (congrArg Value.bool (by rw[R24.lgL,if_pos (by omega)]<;>exact decide_eq_decide.2 (by omega)))
theorem Zk(a b:Nat)(ha:(R24.wds a).length<=4000)(hb:(R24.wds b).length<=4000):Fz 270 [.sl (w24 (R24.wds a)),.sl (w24 (R24.wds b))] (.b (decide (b<a))):=by
 have:=A4e (R24.wds a) (R24.wds b) ha hb
 rwa[show R24.lgL (R24.wds a) (R24.wds b)=decide (b<a) by rw[a5z,R24.lgL_iff];simp]at this
structure PlS where
 i:Nat
 m:List Nat
 c:Nat
theorem Abr(a b:List Nat)(da:R24.Dig a)(db:R24.Dig b)(ta:R24.Trim a)(tb:R24.Trim b)(hla:a.length<=4000)(hlb:b.length<=4000):Fz 269 [.sl (w24 a),.sl (w24 b)] (.sl (w24 (R24.wds (R24.val a+R24.val b)))):=by
 have e1:(w24 a).length=a.length:=B7 _ _
 have e2:(w24 b).length=b.length:=B7 _ _
 refine Fo Tryz.func269 ?_
 repeat' first|refine WX ?_|refine W2 ?_ ?_<;>intro hc
 refine T.kill 0 ?_
 refine p0c (fun(s:PlS)=>R24.PlusInv a b s.m s.i s.c/\s.i<=max a.length b.length+1) (fun s=>max a.length b.length+1-s.i) (fun s=>[(7,.i (s.i:Int)),(6,.i (s.c:Int)),(5,slT 0 s.i),(0,.sl (w24 a)),(1,.sl (w24 b))]) (fun s=>[slB .i64 s.m s.i]) ⟨0,[],0⟩ ⟨R24.plus_start a b,a0k _⟩ CV (.dead .nil) ?_
 rintro⟨i,m,c⟩ ⟨hinv,hi⟩
 dsimp only at hinv hi⊢
 have hm:=hinv.len
 have hc1:=hinv.c1
 by_cases hon:i<a.length\/i<b.length\/0<c
 ·have hle:=R24.plus_len da db hinv hon
  have hst:=R24.plus_step da db ta tb hinv hon
  have d1:=Pq a i
  have d2:=Pq b i
  have hx:=R24.get_lt da i
  have hy:=R24.get_lt db i
  generalize a[i]?.getD 0=x at d1 hx hst
  generalize b[i]?.getD 0=y at d2 hy hst
  have hr:((x:Int)+(y:Int)+(c:Int))%16777216=(((x+y+c)%16777216:Nat):Int):=by omega
  have hq:((x:Int)+(y:Int)+(c:Int))/16777216=(((x+y+c)/16777216:Nat):Int):=by omega
  have f1:(i:Int)<((w24 a).length:Nat)↔i<a.length:=by omega
  have f2:(i:Int)<((w24 b).length:Nat)↔i<b.length:=by omega
  have f3:(0:Int)<(c:Int)↔0<c:=by omega
  cases i with
  |zero=>
   repeat' first|refine WY ?_|refine Zb4 ?_|(apply S.rem;(iterate 3 exact rfl);omega)|refine Zdc ?_|refine Zdw hr ?_|refine Da ?_|refine V ?_|refine W2 ?_ ?_<;>intro hc
   all_goals first
    |(change Next _ _ _ _ _ _;exact Next.go ⟨0+1,m++[(x+y+c)%16777216],(x+y+c)/16777216⟩ ⟨hst,by dsimp only;omega⟩ (by dsimp only;omega) (.cons rfl rfl (.cons (by rw[<-hq];rfl) rfl CV)) (by rw[show m=[]from List.eq_nil_of_length_eq_zero hm];exact .live rfl .nil))
    |(exfalso;omega)
  |succ i=>
   repeat' first|refine WY ?_|refine Zb4 ?_|(apply S.rem;(iterate 3 exact rfl);omega)|refine Zdc ?_|refine Zdr hm hr ?_|refine Da ?_|refine V ?_|refine W2 ?_ ?_<;>intro hc
   all_goals first
    |(change Next _ _ _ _ _ _;exact Next.go ⟨i+1+1,m++[(x+y+c)%16777216],(x+y+c)/16777216⟩ ⟨hst,by dsimp only;omega⟩ (by dsimp only;omega) (.cons rfl rfl (.cons (by rw[<-hq];rfl) rfl CV)) (.live (Aw _ _ _) .nil))
    |(exfalso;omega)
 ·obtain⟨f1,f2,rfl⟩:a.length<=i/\b.length<=i/\c=0:=by omega
  have g1:¬(i:Int)<((w24 a).length:Nat):=by omega
  have g2:¬(i:Int)<((w24 b).length:Nat):=by omega
  have hend:=R24.plus_end hinv f1 f2
  refine p4z 5 0 hm rfl rfl ?_
  repeat' first|refine WX ?_|refine W2 ?_ ?_<;>intro hc
  exact E5 (by simp) Tryz.results269 rfl (by rw[hend];exact .one (.one (.lf _)))
theorem Agx(a b:Nat)(ha:(R24.wds a).length<=4000)(hb:(R24.wds b).length<=4000):Fz 269 [.sl (w24 (R24.wds a)),.sl (w24 (R24.wds b))] (.sl (w24 (R24.wds (a+b)))):=by
 have:=Abr (R24.wds a) (R24.wds b) (R24.wds_dig a) (R24.wds_dig b) (R24.wds_trim a) (R24.wds_trim b) ha hb
 rwa[R24.wds_val,R24.wds_val]at this
theorem A82(a b:List Nat)(da:R24.Dig a)(db:R24.Dig b)(hla:a.length<=4000)(hle:b.length<=a.length)(hv:R24.val b<=R24.val a):Fz 272 [.sl (w24 a),.sl (w24 b)] (.sl (w24 (R24.pw a.length (R24.val a-R24.val b)))):=by
 have e1:(w24 a).length=a.length:=B7 _ _
 have e2:(w24 b).length=b.length:=B7 _ _
 refine Fo Tryz.func272 ?_
 repeat' first|refine WX ?_|refine W2 ?_ ?_<;>intro hc
 refine T.kill 0 ?_
 refine p0c (fun(s:PlS)=>R24.MinusInv a b s.m s.i s.c/\s.i<=a.length) (fun s=>a.length-s.i) (fun s=>[(7,.i (s.i:Int)),(6,.i (s.c:Int)),(5,slT 0 s.i),(0,.sl (w24 a)),(1,.sl (w24 b))]) (fun s=>[slB .i64 s.m s.i]) ⟨0,[],0⟩ ⟨R24.minus_start a b,a0k _⟩ CV (.dead .nil) ?_
 rintro⟨i,m,c⟩ ⟨hinv,hi⟩
 dsimp only at hinv hi⊢
 have hm:=hinv.len
 have hc1:=hinv.c1
 by_cases hil:i<a.length
 ·have h3:(i:Int)<((w24 a).length:Nat):=by omega
  obtain⟨x,hx⟩:∃x,a[i]?=some x:=⟨a[i]'(by omega),a0b (by omega)⟩
  have hbx:=Ez (k:=.i64) hx
  have hxl:=da.get hx
  have d2:=Pq b i
  have hy:=R24.get_lt db i
  obtain⟨y,hyy⟩:∃y,y=b[i]?.getD 0:=⟨_,rfl⟩
  rw[<-hyy]at d2 hy
  by_cases hn:(x:Int)-(y:Int)-(c:Int)<0
  ·have hst:=R24.minus_step (d:=x+16777216-y-c) (c':=1) hinv (by omega) (by omega) (by rw[hx,<-hyy,a1a];omega)
   have hr:(x:Int)-(y:Int)-(c:Int)+16777216=((x+16777216-y-c:Nat):Int):=by omega
   cases i with
   |zero=>
    repeat' first|refine WY ?_|refine Zb4 ?_|refine Zdw hr ?_|refine Da ?_|refine Dw 10 ?_|refine Dv 10 ?_|refine Dv 11 ?_|refine V ?_|refine W2 ?_ ?_<;>intro hc
    exact Next.go ⟨0+1,m++[x+16777216-y-c],1⟩ ⟨hst,by dsimp only;omega⟩ (by dsimp only;omega) CV (by rw[show m=[]from List.eq_nil_of_length_eq_zero hm];exact .live rfl .nil)
   |succ i=>
    repeat' first|refine WY ?_|refine Zb4 ?_|refine Zdr hm hr ?_|refine Da ?_|refine Dw 10 ?_|refine Dv 10 ?_|refine Dv 11 ?_|refine V ?_|refine W2 ?_ ?_<;>intro hc
    exact Next.go ⟨i+1+1,m++[x+16777216-y-c],1⟩ ⟨hst,by dsimp only;omega⟩ (by dsimp only;omega) CV (.live (Aw _ _ _) .nil)
  ·have hst:=R24.minus_step (d:=x-y-c) (c':=0) hinv (by omega) (by omega) (by rw[hx,<-hyy,a1a];omega)
   have hr:(x:Int)-(y:Int)-(c:Int)=((x-y-c:Nat):Int):=by omega
   cases i with
   |zero=>
    repeat' first|refine WY ?_|refine Zb4 ?_|refine Zdw hr ?_|refine Da ?_|refine Dw 10 ?_|refine Dv 10 ?_|refine Dv 11 ?_|refine V ?_|refine W2 ?_ ?_<;>intro hc
    exact Next.go ⟨0+1,m++[x-y-c],0⟩ ⟨hst,by dsimp only;omega⟩ (by dsimp only;omega) CV (by rw[show m=[]from List.eq_nil_of_length_eq_zero hm];exact .live rfl .nil)
   |succ i=>
    repeat' first|refine WY ?_|refine Zb4 ?_|refine Zdr hm hr ?_|refine Da ?_|refine Dw 10 ?_|refine Dv 10 ?_|refine Dv 11 ?_|refine V ?_|refine W2 ?_ ?_<;>intro hc
    exact Next.go ⟨i+1+1,m++[x-y-c],0⟩ ⟨hst,by dsimp only;omega⟩ (by dsimp only;omega) CV (.live (Aw _ _ _) .nil)
 ·have h3:¬(i:Int)<((w24 a).length:Nat):=by omega
  obtain rfl:i=a.length:=by omega
  have hend:=R24.minus_end hle hv hinv
  refine p4z 5 0 hm rfl rfl ?_
  repeat' first|refine WX ?_|refine W2 ?_ ?_<;>intro hc
  exact E5 (by simp) Tryz.results272 rfl (by rw[hend];exact .one (.one (.lf _)))
theorem Aet(s:Bool)(n:Nat):Fz 222 [A0 (bgR s (R24.wds n))] (A0 (bgR (!s&&decide (n≠0)) (R24.wds n))):=by
 by_cases h0:n=0
 ·have h:¬(0:Int)<((w24 (R24.wds n)).length:Nat):=by rw[B7,h0,R24.wds_zero];decide
  cases s with
  |true=>
   rw[show(!true&&decide (n≠0))=false from rfl]
   refine Fo b0b ?_
   repeat' first|refine W ?_|refine Da ?_|refine V ?_|refine W2 ?_ ?_<;>intro hc
   exact D4 rfl rfl rfl rfl rfl rfl
  |false=>
   rw[show(!false&&decide (n≠0))=decide ((0:Int)<((w24 (R24.wds n)).length:Nat)) by rw[decide_eq_false h];simp[h0]]
   refine Fo b0b ?_
   repeat' first|refine W ?_|refine Da ?_|refine V ?_|refine W2 ?_ ?_<;>intro hc
   exact D4 rfl rfl rfl rfl rfl rfl
 ·have h:(0:Int)<((w24 (R24.wds n)).length:Nat):=by
   have:R24.wds n≠[]:=fun e=>h0 (R24.wds_nil.1 e)
   have:=a1i.2 this
   rw[B7];omega
  cases s with
  |true=>
   rw[show(!true&&decide (n≠0))=false from rfl]
   refine Fo b0b ?_
   repeat' first|refine W ?_|refine Da ?_|refine V ?_|refine W2 ?_ ?_<;>intro hc
   exact D4 rfl rfl rfl rfl rfl rfl
  |false=>
   rw[show(!false&&decide (n≠0))=decide ((0:Int)<((w24 (R24.wds n)).length:Nat)) by rw[decide_eq_true h];simp[h0]]
   refine Fo b0b ?_
   repeat' first|refine W ?_|refine Da ?_|refine V ?_|refine W2 ?_ ?_<;>intro hc
   exact D4 rfl rfl rfl rfl rfl rfl
theorem A2u(a b:Nat)(ha:(R24.wds a).length<=4000)(hab:b<=a):Fz 272 [.sl (w24 (R24.wds a)),.sl (w24 (R24.wds b))] (.sl (w24 (R24.pw (R24.wds a).length (a-b)))):=by
 have:=A82 (R24.wds a) (R24.wds b) (R24.wds_dig a) (R24.wds_dig b) ha (R24.trim_le (R24.wds_trim b) (R24.wds_dig a) (by rw[R24.wds_val,R24.wds_val];exact hab)) (by rw[R24.wds_val,R24.wds_val];exact hab)
 rwa[R24.wds_val,R24.wds_val]at this
theorem Wq(s:Bool)(a b:Nat)(ha:(R24.wds a).length<=4000):Fz 271 [A0 (bgR s (R24.pw (R24.wds a).length (a-b)))] (A0 (bgR (s&&decide (a-b≠0)) (R24.wds (a-b)))):=
 A69 s _ _ (R24.pw_dig _ _) (by rw[R24.pw_len];omega) (R24.pw_val _ _ (by have:=R24.val_lt (R24.wds a) (R24.wds_dig a);rw[R24.wds_val]at this;omega))
theorem Abs(s:Bool)(a b:Nat)(ha:(R24.wds a).length<=4000)(hb:(R24.wds b).length<=4000):Fz 210 [A0 (bgR s (R24.wds a)),A0 (bgR s (R24.wds b))] (A0 (bgR s (R24.wds (a+b)))):=by
 have c1:=Agx a b ha hb
 cases s<;>
 ·skip
  refine Fo b2h ?_
  repeat' first|refine WY ?_|refine Zdj ?_|refine Zdk ?_|refine Dw 8 ?_|refine Dv 8 ?_|refine Da ?_|refine V ?_|refine W2 ?_ ?_<;>intro hc
  exact D4 rfl rfl rfl rfl rfl rfl
theorem Abu(s:Bool)(a b:Nat)(ha:(R24.wds a).length<=4000)(hb:(R24.wds b).length<=4000)(h:a<b):Fz 210 [A0 (bgR s (R24.wds a)),A0 (bgR (!s) (R24.wds b))] (A0 (bgR (!s&&decide (b-a≠0)) (R24.wds (b-a)))):=by
 have c1:=Zk b a hb ha
 have c2:=A2u b a hb (by omega)
 have c3:=Wq (!s) b a hb
 cases s<;>
 ·skip
  refine Fo b2h ?_
  repeat' first|refine WY ?_|refine Zdj ?_|refine Zdk ?_|refine Dw 9 ?_|refine Dv 9 ?_|refine Da ?_|refine V ?_|refine W2 ?_ ?_<;>intro hc
  exact D4 rfl rfl rfl rfl rfl rfl
theorem Abt(s:Bool)(a b:Nat)(ha:(R24.wds a).length<=4000)(hb:(R24.wds b).length<=4000)(h:b<=a):Fz 210 [A0 (bgR s (R24.wds a)),A0 (bgR (!s) (R24.wds b))] (A0 (bgR (s&&decide (a-b≠0)) (R24.wds (a-b)))):=by
 have c1:=Zk b a hb ha
 have hn:¬a<b:=by omega
 have c2:=A2u a b ha h
 have c3:=Wq s a b ha
 cases s<;>
 ·skip
  refine Fo b2h ?_
  repeat' first|refine WY ?_|refine Zdj ?_|refine Zdk ?_|refine Dw 9 ?_|refine Dv 9 ?_|refine Da ?_|refine V ?_|refine W2 ?_ ?_<;>intro hc
  exact D4 rfl rfl rfl rfl rfl rfl
abbrev zR(z:Int):List Lf:=bgR (decide (z<0)) (R24.wds z.natAbs)
def bz(k:Nat)(z:Int):Prop:=z.natAbs<16777216^k
theorem bz.len{k:Nat}{z:Int}(h:bz k z):(R24.wds z.natAbs).length<=k:=R24.wds_len h
theorem bz.mono{j k:Nat}{z:Int}(h:bz j z)(hj:j<=k):bz k z:=a5g h (a1s (by decide) hj)
theorem bz.mul{j k:Nat}{x y:Int}(hx:bz j x)(hy:bz k y):bz (j+k) (x*y):=by
 unfold bz at*
 rw[a8z,a9e]
 exact b0k hx hy
theorem bz.neg{k:Nat}{x:Int}(hx:bz k x):bz k (-x):=by
 unfold bz at*
 rwa[Int.natAbs_neg]
theorem bz.add{k:Nat}{x y:Int}(hx:bz k x)(hy:bz k y):bz (k+1) (x+y):=by
 unfold bz at*
 have:=Int.natAbs_add_le x y
 rw[a3c]
 omega
theorem Aif(z:Int):Fz 222 [A0 (zR z)] (A0 (zR (-z))):=by
 have:=Aet (decide (z<0)) z.natAbs
 rw[show(!decide (z<0)&&decide (z.natAbs≠0))=decide (-z<0) by
  rw[a5z]
  simp only[a0w,Bool.not_eq_true',decide_eq_true_eq,decide_eq_false_iff_not]
  omega]at this
 rw[show zR (-z)=bgR (decide (-z<0)) (R24.wds z.natAbs) by rw[zR,Int.natAbs_neg]]
 exact this
theorem Aig(x y:Int)(hx:(R24.wds x.natAbs).length<=4000)(hy:(R24.wds y.natAbs).length<=4000):Fz 210 [A0 (zR x),A0 (zR y)] (A0 (zR (x+y))):=by
 by_cases e:decide (x<0)=decide (y<0)
 ·have:=Abs (decide (x<0)) x.natAbs y.natAbs hx hy
  rw[show zR (x+y)=bgR (decide (x<0)) (R24.wds (x.natAbs+y.natAbs)) by
   have h1:=decide_eq_decide.1 e
   rw[zR,show(x+y).natAbs=x.natAbs+y.natAbs by omega,show decide (x+y<0)=decide (x<0)from decide_eq_decide.2 (by omega)]]
  rw[show zR y=bgR (decide (x<0)) (R24.wds y.natAbs) by rw[zR,e]]
  exact this
 ·have e2:decide (y<0)= !decide (x<0):=by
   cases h1:decide (y<0)<;>cases h2:decide (x<0)<;>simp_all
  have h1:(y<0↔¬x<0):=by
   have:=a5z.1 e2
   simpa using this
  rcases a0y x.natAbs y.natAbs with h|h
  ·have:=Abu (decide (x<0)) x.natAbs y.natAbs hx hy h
   rw[show zR (x+y)=bgR (!decide (x<0)&&decide (y.natAbs-x.natAbs≠0)) (R24.wds (y.natAbs-x.natAbs)) by
    rw[zR,show(x+y).natAbs=y.natAbs-x.natAbs by omega]
    congr 2
    rw[<-e2,a5z]
    simp only[a0w,decide_eq_true_eq]
    omega]
   rw[show zR y=bgR (!decide (x<0)) (R24.wds y.natAbs) by rw[zR,e2]]
   exact this
  ·have:=Abt (decide (x<0)) x.natAbs y.natAbs hx hy h
   rw[show zR (x+y)=bgR (decide (x<0)&&decide (x.natAbs-y.natAbs≠0)) (R24.wds (x.natAbs-y.natAbs)) by
    rw[zR,show(x+y).natAbs=x.natAbs-y.natAbs by omega]
    congr 2
    rw[a5z]
    simp only[a0w,decide_eq_true_eq]
    omega]
   rw[show zR y=bgR (!decide (x<0)) (R24.wds y.natAbs) by rw[zR,e2]]
   exact this
/-! ### Int -/
theorem Aej(n:Int)(h0: -9223372036854775808<=n)(h1:n<=9223372036854775807):Fz 58 [.i n] (.val (.int .u64 (n.natAbs:Int))):=Cy n h0 h1
structure IntInv(n:Nat)(m:List Nat)(r i:Nat):Prop where
 len:m.length=i
 eq:m++R24.wds r=R24.wds n
 le:r<=n
theorem Adj{n:Nat}{m:List Nat}{r i:Nat}(h:IntInv n m r i)(hr:0<r):IntInv n (m++[r%16777216]) (r/16777216) (i+1):=by
 obtain⟨h1,h2,h3⟩:=h
 refine⟨by simp[h1],?_,by omega⟩
 rw[R24.wds_pos (by omega)]at h2
 rw[a3i]
 exact h2
theorem Ag5{n:Nat}{m:List Nat}{r i:Nat}(hn:n<18446744073709551616)(h:IntInv n m r i):i<=3:=by
 have h4:(R24.wds n).length<=3:=R24.wds_len (by omega)
 rw[<-h.eq,a0s,h.len]at h4
 omega
structure IntS where
 i:Nat
 m:List Nat
 r:Nat
theorem Mm(n:Int)(h0: -9223372036854775808<=n)(h1:n<=9223372036854775807):Fz 136 [.i n] (A0 (zR n)):=by
 have c1:=Aej n h0 h1
 obtain⟨u,hu⟩:∃u,u=n.natAbs:=⟨_,rfl⟩
 rw[show zR n=bgR (decide (n<0)) (R24.wds u) by rw[hu]]
 rw[<-hu]at c1
 refine Fo Tryz.func136 ?_
 repeat' first|refine WX ?_|refine W2 ?_ ?_<;>intro hc
 refine T.kill 2 ?_
 refine T.kill 3 ?_
 refine p0c (fun(s:IntS)=>IntInv u s.m s.r s.i) (fun s=>s.r) (fun s=>[(4,.val (.int .u64 (s.r:Int))),(3,.ptr 1 0),(2,.ptr 0 0)]) (fun s=>[.live [.val (.bool false),.val (.slice none 0 0)],.live [.b (decide (n<0)),slT 2 s.i],slB .i64 s.m s.i,.dead]) ⟨0,[],u⟩ ⟨rfl,rfl,a0n _⟩ CV CH ?_
 rintro⟨i,m,r⟩ hinv
 dsimp only at hinv⊢
 have hm:=hinv.len
 have hle:=hinv.le
 have hi3:=Ag5 (by omega) hinv
 by_cases hr:0<r
 ·have hr':(0:Int)<(r:Int):=by omega
  have hst:=Adj hinv hr
  have hw:IntKind.i64.wrap ((r:Int)%16777216)=(r:Int)%16777216:=Dy _ (by omega)
  have hd:(r:Int)%16777216=((r%16777216:Nat):Int):=by omega
  have hq:(r:Int)/16777216=((r/16777216:Nat):Int):=by omega
  cases i with
  |zero=>
   repeat' first|refine W ?_|refine Zb4 ?_|refine Zb6 hw ?_|refine Zdx ?_|refine Zbo ?_|(apply p2h 2;(iterate 7 exact rfl);exact hd;decide)|refine Da ?_|refine V ?_|refine W2 ?_ ?_<;>intro hc
   exact Next.go ⟨0+1,m++[r%16777216],r/16777216⟩ hst (by dsimp only;omega) (.cons (by rw[<-hq];rfl) rfl CV) (by rw[show m=[]from List.eq_nil_of_length_eq_zero hm];exact .live rfl CH)
  |succ i=>
   repeat' first|refine W ?_|refine Zb4 ?_|refine Zb6 hw ?_|refine Zdx ?_|refine Zbo ?_|(refine Reg.blur 1 1 3 rfl rfl rfl ?_;apply p2o;(iterate 7 exact rfl);exact hm;exact hd;decide;omega)|refine Da ?_|refine V ?_|refine W2 ?_ ?_<;>intro hc
   exact Next.go ⟨i+1+1,m++[r%16777216],r/16777216⟩ hst (by dsimp only;omega) (.cons (by rw[<-hq];rfl) rfl CV) (.live rfl (.live rfl (.live (Aw _ _ _) (.dead .nil))))
 ·have hr':¬(0:Int)<(r:Int):=by omega
  obtain rfl:r=0:=by omega
  have he:m=R24.wds u:=by
   have:=hinv.eq
   rwa[R24.wds_zero,a1u]at this
  rw[<-he]
  cases i with
  |zero=>
   obtain rfl:=a0z hm
   refine p5q 1 1 rfl rfl ?_
   repeat' first|refine WX ?_|refine W2 ?_ ?_<;>intro hc
   exact D4 rfl rfl rfl rfl rfl rfl
  |succ i=>
   refine T.freezeH 1 1 rfl rfl rfl rfl (G5 .i64 m hm.symm) ?_
   repeat' first|refine WX ?_|refine W2 ?_ ?_<;>intro hc
   exact D4 rfl rfl rfl rfl rfl rfl
structure MulA where
 i:Nat
 m:List Nat
structure MulB where
 k:Nat
 m:List Nat
 c:Nat
theorem A2v(s t:Bool)(a b:List Nat)(da:R24.Dig a)(db:R24.Dig b)(hla:a.length<=2000)(hlb:b.length<=2000):Fz 211 [A0 (bgR s a),A0 (bgR t b)] (A0 (bgR ((s !=t)&&decide (R24.val a*R24.val b≠0)) (R24.wds (R24.val a*R24.val b)))):=by
 have e1:(w24 a).length=a.length:=B7 _ _
 have e2:(w24 b).length=b.length:=B7 _ _
 have h1:(((w24 a).length:Nat):Int)+((w24 b).length:Nat)+1=((a.length+b.length+1:Nat):Int):=by omega
 refine Fo Tryz.func211 ?_
 repeat' first|refine WY ?_|refine Zbb ?_|(apply p3d (n:=a.length+b.length+1);exact rfl;rw[<-h1];exact rfl;omega;exact rfl;exact rfl)|refine V ?_|refine W2 ?_ ?_<;>intro hc
 refine p0c (fun(o:MulA)=>o.i<=a.length/\R24.MulR a b o.m o.i) (fun o=>a.length-o.i) (fun o=>[(6,.i o.i),(5,.own 3 0 (a.length+b.length+1) 1),(2,.ptr 0 0),(3,.ptr 1 0),(4,.ptr 2 0)])
  (fun o=>[.live [.val (.bool s),.sl (w24 a)],.live [.val (.bool t),.sl (w24 b)],.live [.val (.bool false),.val (.slice none 0 0)],.live (wsA .i64 o.m)]) ⟨0,List.replicate (a.length+b.length+1) 0⟩ ⟨a0k _,R24.mulR_start a b⟩ CV (.live rfl (.live rfl (.live rfl (.live (Aw _ _ _) .nil)))) ?_
 rintro⟨i,m⟩ ⟨hi,hinv⟩
 dsimp only at hi hinv⊢
 have hm:=hinv.len
 by_cases hil:i<a.length
 ·have h3:(i:Int)<((w24 a).length:Nat):=by omega
  obtain⟨x,hx⟩:∃x,a[i]?=some x:=⟨a[i],a0b hil⟩
  have hbx:=Ez (k:=.i64) hx
  have hxl:=da.get hx
  repeat' first|refine WX ?_|refine W2 ?_ ?_<;>intro hc
  refine p0c (fun(q:MulB)=>q.k<=b.length+1/\R24.MulRI a b q.m i x q.k q.c) (fun q=>b.length+1-q.k) (fun q=>[(8,.i q.k),(7,.i q.c),(6,.i i),(5,.own 3 0 (a.length+b.length+1) 1),(2,.ptr 0 0),(3,.ptr 1 0),(4,.ptr 2 0)])
   (fun q=>[.live [.val (.bool s),.sl (w24 a)],.live [.val (.bool t),.sl (w24 b)],.live [.val (.bool false),.val (.slice none 0 0)],.live (wsA .i64 q.m)]) ⟨0,m,0⟩ ⟨a0k _,R24.mulR_in x hinv⟩ CV (.live rfl (.live rfl (.live rfl (.live (Aw _ _ _) .nil)))) ?_
  rintro⟨k,m1,c⟩ ⟨hk,hin⟩
  dsimp only at hk hin⊢
  have hm1:=hin.len
  have hcl:=hin.cd
  have hno:=R24.mulR_none da db hx hin
  by_cases hon:k<b.length\/0<c
  ·have hkl:k<=b.length:=by omega
   obtain⟨z,hz⟩:∃z,m1[i+k]?=some z:=⟨m1[i+k]'(by omega),a0b (by omega)⟩
   have hzl:=hin.dig.get hz
   have d2:=Pq b k
   have hyl:=R24.get_lt db k
   obtain⟨y,hyy⟩:∃y,y=b[k]?.getD 0:=⟨_,rfl⟩
   rw[<-hyy]at d2 hyl
   obtain⟨f1,f2⟩:=R24.mulR_fits hxl hyl hzl hcl
   have hxy:(x:Int)*(y:Int)=((x*y:Nat):Int):=(a3y x y).symm
   have hst:=R24.mulR_step (r:=(z+x*y+c)%16777216) (q:=(z+x*y+c)/16777216) hin hz (a5n _ (by decide)) (by rw[<-hyy];omega) f2
   obtain⟨p,hp⟩:∃p,p=x*y:=⟨_,rfl⟩
   rw[<-hp]at hxy f1 f2 hst
   have hr:((z:Int)+(x:Int)*(y:Int)+(c:Int))%16777216=(((z+p+c)%16777216:Nat):Int):=by rw[hxy];omega
   have hq:((z:Int)+(x:Int)*(y:Int)+(c:Int))/16777216=(((z+p+c)/16777216:Nat):Int):=by rw[hxy];omega
   repeat' first|refine WY ?_|(apply S.arith;(iterate 4 exact rfl);(first|omega|(rw[hxy];omega)))|(apply S.rem;(iterate 3 exact rfl);(rw[hxy];omega))|(apply S.quo;(iterate 3 exact rfl);(rw[hxy];omega))|(apply p1g (i+k);(iterate 4 exact rfl);omega;omega)|(apply p4u;(iterate 4 exact rfl);exact hz)|(apply p1h;(iterate 3 exact rfl);exact hr;omega)|refine Dw 19 ?_|refine Dv 19 ?_|refine Da ?_|refine Dv 20 ?_|refine V ?_|refine W2 ?_ ?_<;>intro hc
   all_goals first
    |(change Next _ _ _ _ _ _;exact Next.go ⟨k+1,m1.set (i+k) ((z+p+c)%16777216),(z+p+c)/16777216⟩ ⟨by dsimp only;omega,hst⟩ (by dsimp only;omega) (.cons rfl rfl (.cons (by rw[<-hq];rfl) rfl CV)) (.live rfl (.live rfl (.live rfl (.live (Aw _ _ _) .nil)))))
    |(exfalso;omega)
  ·obtain⟨g1,rfl⟩:b.length<=k/\c=0:=by omega
   have g2:¬(k:Int)<((w24 b).length:Nat):=by omega
   repeat' first|refine WX ?_|refine W2 ?_ ?_<;>intro hc
   exact Next.go ⟨i+1,m1⟩ ⟨by dsimp only;omega,R24.mulR_out hin hx g1⟩ (by dsimp only;omega) CV (.live rfl (.live rfl (.live rfl (.live (Aw _ _ _) .nil))))
 ·have h3:¬(i:Int)<((w24 a).length:Nat):=by omega
  obtain rfl:i=a.length:=by omega
  have c3:=A69 (s !=t) m (R24.val a*R24.val b) hinv.dig (by omega) (R24.mulR_end hinv)
  repeat' first|refine WY ?_|(refine T.freeze 5 rfl rfl (G5 .i64 m hm.symm) ?_)|refine Zdj ?_|refine Zdk ?_|refine Dw 8 ?_|refine Dv 8 ?_|refine V ?_|refine W2 ?_ ?_<;>intro hc
  exact D4 rfl rfl rfl rfl rfl rfl
theorem G8(x y:Int)(hx:(R24.wds x.natAbs).length<=2000)(hy:(R24.wds y.natAbs).length<=2000):Fz 211 [A0 (zR x),A0 (zR y)] (A0 (zR (x*y))):=by
 have:=A2v (decide (x<0)) (decide (y<0)) (R24.wds x.natAbs) (R24.wds y.natAbs) (R24.wds_dig _) (R24.wds_dig _) hx hy
 rw[R24.wds_val,R24.wds_val]at this
 rw[show zR (x*y)=bgR ((decide (x<0) !=decide (y<0))&&decide (x.natAbs*y.natAbs≠0)) (R24.wds (x.natAbs*y.natAbs)) by
  rw[zR,a8z]
  congr 2
  rcases a5l x 0 with hx|rfl|hx
  ·rcases a5l y 0 with hy|rfl|hy
   ·have h1:¬x*y<0:=by have:=b1d hx hy;omega
    simp[h1,hx,hy]
   ·simp
   ·have h1:x*y<0:=b1b hx hy
    have h2:¬y<0:=by omega
    have h3:x≠0:=by omega
    have h4:y≠0:=by omega
    simp[h1,hx,h2]
    exact Nat.mul_ne_zero (by omega) (by omega)
  ·simp
  ·have h0:¬x<0:=by omega
   rcases a5l y 0 with hy|rfl|hy
   ·have h1:x*y<0:=b1c hx hy
    have h3:x≠0:=by omega
    have h4:y≠0:=by omega
    simp[h1,h0,hy]
    exact Nat.mul_ne_zero (by omega) (by omega)
   ·simp
   ·have h1:¬x*y<0:=by have:=a3s hx hy;omega
    have h2:¬y<0:=by omega
    simp[h1,h0,h2]]
 exact this
/-! ### Exact fractions -/
structure XN where
 n:Int
 d:Int
abbrev xR(n d:Int):List Lf:=[.val (.bool (decide (n<0))),.sl (w24 (R24.wds n.natAbs)),.val (.bool (decide (d<0))),.sl (w24 (R24.wds d.natAbs))]
abbrev XN.row(x:XN):List Lf:=xR x.n x.d
structure XN.bd(k:Nat)(x:XN):Prop where
 n:bz k x.n
 d:bz k x.d
 p:0<x.d
def XN.plus(x y:XN):XN:=⟨x.n*y.d+y.n*x.d,x.d*y.d⟩
def XN.less(x y:XN):XN:=⟨x.n*y.d+ -y.n*x.d,x.d*y.d⟩
def XN.times(x y:XN):XN:=⟨x.n*y.n,x.d*y.d⟩
def XN.over(x y:XN):XN:=⟨x.n*y.d,x.d*y.n⟩
def XN.val(x:XN):Rat:=Rat.divInt x.n x.d
theorem XN.bd.mono{j k:Nat}{x:XN}(h:x.bd j)(hj:j<=k):x.bd k:=⟨h.n.mono hj,h.d.mono hj,h.p⟩
theorem XN.bd_plus{j k:Nat}{x y:XN}(hx:x.bd j)(hy:y.bd k):(x.plus y).bd (j+k+1):=
 ⟨(hx.n.mul hy.d).add (a9x k j▸hy.n.mul hx.d),(hx.d.mul hy.d).mono (by omega),a3s hx.p hy.p⟩
theorem XN.bd_less{j k:Nat}{x y:XN}(hx:x.bd j)(hy:y.bd k):(x.less y).bd (j+k+1):=
 ⟨(hx.n.mul hy.d).add (a9x k j▸hy.n.neg.mul hx.d),(hx.d.mul hy.d).mono (by omega),a3s hx.p hy.p⟩
theorem XN.bd_times{j k:Nat}{x y:XN}(hx:x.bd j)(hy:y.bd k):(x.times y).bd (j+k):=⟨hx.n.mul hy.n,hx.d.mul hy.d,a3s hx.p hy.p⟩
theorem p2s{j k:Nat}{x y:XN}(hx:x.bd j)(hy:y.bd k)(h:0<y.n):(x.over y).bd (j+k):=⟨hx.n.mul hy.d,hx.d.mul hy.n,a3s hx.p h⟩
theorem XN.val_plus{x y:XN}(hx:0<x.d)(hy:0<y.d):(x.plus y).val=x.val+y.val:=by
 unfold XN.val XN.plus
 rw[a8s _ _ (by omega) (by omega)]
theorem XN.val_less{x y:XN}(hx:0<x.d)(hy:0<y.d):(x.less y).val=x.val-y.val:=by
 unfold XN.val XN.less
 rw[a4l,Rat.neg_divInt,a8s _ _ (by omega) (by omega)]
theorem XN.val_times(x y:XN):(x.times y).val=x.val*y.val:=by
 unfold XN.val XN.times
 rw[a7n]
theorem p4g{x y:XN}:(x.over y).val=x.val/y.val:=by
 unfold XN.val XN.over
 rw[b0s,Rat.inv_divInt,a7n]
def XN.sgn(x:XN):Int:=if x.n<0 then-1 else if x.n=0 then 0 else 1
theorem p3q{x:XN}(hx:0<x.d):x.sgn=x.val.num.sign:=by
 rw[XN.val,Rk hx]
 unfold XN.sgn
 split
 ·rw[a4y (by omega)]
 ·split
  ·rename_i h;rw[h];rfl
  ·rw[a4e (by omega)]
theorem Aj3(n d:Int)(h0: -9223372036854775808<=n)(h1:n<=9223372036854775807)(h2: -9223372036854775808<=d)(h3:d<=9223372036854775807):Fz 128 [A0 [.i n,.i d]] (A0 (xR n d)):=by
 have c1:=Mm n h0 h1
 have c2:=Mm d h2 h3
 refine Fo Tryz.func128 ?_
 repeat' first|refine WY ?_|refine Dw 7 ?_|refine Dv 7 ?_|refine V ?_|refine W2 ?_ ?_<;>intro hc
 exact D4 rfl rfl rfl rfl rfl rfl
theorem Mn{j k:Nat}{x y:XN}(hx:x.bd j)(hy:y.bd k)(hjk:j+k<=2000):Fz 134 [A0 x.row,A0 y.row] (A0 (x.plus y).row):=by
 have l1:=hx.n.len
 have l2:=hx.d.len
 have l3:=hy.n.len
 have l4:=hy.d.len
 have c1:=G8 x.n y.d (by omega) (by omega)
 have c2:=G8 y.n x.d (by omega) (by omega)
 have c3:=Aig (x.n*y.d) (y.n*x.d) (by have:=(hx.n.mul hy.d).len;omega) (by have:=(hy.n.mul hx.d).len;omega)
 have c4:=G8 x.d y.d (by omega) (by omega)
 refine Fo Tryz.func134 ?_
 repeat' first|refine WY ?_|refine Dw 17 ?_|refine Dv 17 ?_|refine V ?_|refine W2 ?_ ?_<;>intro hc
 exact D4 rfl rfl rfl rfl rfl rfl
theorem Us{j k:Nat}{x y:XN}(hx:x.bd j)(hy:y.bd k)(hjk:j+k<=2000):Fz 165 [A0 x.row,A0 y.row] (A0 (x.less y).row):=by
 have c1:=Aif y.n
 have c2:=Mn (x:=x) (y:=⟨-y.n,y.d⟩) hx ⟨hy.n.neg,hy.d,hy.p⟩ hjk
 refine Fo Tryz.func165 ?_
 repeat' first|refine WY ?_|refine Dw 8 ?_|refine Dv 8 ?_|refine V ?_|refine W2 ?_ ?_<;>intro hc
 exact D4 rfl rfl rfl rfl rfl rfl
theorem Ky{j k:Nat}{x y:XN}(hx:x.bd j)(hy:y.bd k)(hjk:j+k<=2000):Fz 137 [A0 x.row,A0 y.row] (A0 (x.times y).row):=by
 have l1:=hx.n.len
 have l2:=hx.d.len
 have l3:=hy.n.len
 have l4:=hy.d.len
 have c1:=G8 x.n y.n (by omega) (by omega)
 have c4:=G8 x.d y.d (by omega) (by omega)
 refine Fo Tryz.func137 ?_
 repeat' first|refine WY ?_|refine Dw 11 ?_|refine Dv 11 ?_|refine V ?_|refine W2 ?_ ?_<;>intro hc
 exact D4 rfl rfl rfl rfl rfl rfl
theorem Aeu{j k:Nat}{x y:XN}(hx:x.bd j)(hy:y.bd k)(hjk:j+k<=2000):Fz 135 [A0 x.row,A0 y.row] (A0 (x.over y).row):=by
 have l1:=hx.n.len
 have l2:=hx.d.len
 have l3:=hy.n.len
 have l4:=hy.d.len
 have c1:=G8 x.n y.d (by omega) (by omega)
 have c4:=G8 x.d y.n (by omega) (by omega)
 refine Fo Tryz.func135 ?_
 repeat' first|refine WY ?_|refine Dw 11 ?_|refine Dv 11 ?_|refine V ?_|refine W2 ?_ ?_<;>intro hc
 exact D4 rfl rfl rfl rfl rfl rfl
theorem Im(x:XN):Fz 129 [A0 x.row] (.i x.sgn):=by
 unfold XN.sgn
 by_cases h1:x.n<0
 ·rw[if_pos h1]
  refine Fo b2c ?_
  repeat' first|refine WX ?_|refine W2 ?_ ?_<;>intro hc
  exact Dd rfl rfl rfl
 ·rw[if_neg h1]
  by_cases h0:x.n=0
  ·rw[if_pos h0]
   have h:(((w24 (R24.wds x.n.natAbs)).length:Nat):Int)=0:=by rw[B7,h0,show(0:Int).natAbs=0 from rfl,R24.wds_zero];rfl
   refine Fo b2c ?_
   repeat' first|refine WX ?_|refine W2 ?_ ?_<;>intro hc
   exact Dd rfl rfl rfl
  ·rw[if_neg h0]
   have h:¬(((w24 (R24.wds x.n.natAbs)).length:Nat):Int)=0:=fun e=>h0 (by
    have:=R24.wds_nil (n:=x.n.natAbs)|>.1 (a0z (by rw[B7]at e;omega))
    omega)
   refine Fo b2c ?_
   repeat' first|refine WX ?_|refine W2 ?_ ?_<;>intro hc
   exact Dd rfl rfl rfl
theorem Ly{j k:Nat}{x y:XN}(hx:x.bd j)(hy:y.bd k)(hjk:j+k<=2000):Fz 132 [A0 x.row,A0 y.row] (.i (x.less y).sgn):=by
 have c1:=Us hx hy hjk
 have c2:=Im (x.less y)
 refine Fo Tryz.func132 ?_
 repeat' first|refine WX ?_|refine W2 ?_ ?_<;>intro hc
 exact Dd rfl rfl rfl
def XN.ofQ(q:Rat):XN:=⟨q.num,q.den⟩
theorem XN.val_ofQ(q:Rat):(XN.ofQ q).val=q:=by
 unfold XN.val XN.ofQ
 rw[a8l]
 exact a9a q
theorem p0l{q:Rat}(h:Fits q):(XN.ofQ q).bd 3:=by
 obtain⟨h1,h2⟩:=h
 have h3:=q.den_pos
 refine⟨?_,?_,?_⟩
 ·show q.num.natAbs<_
  omega
 ·show((q.den:Int)).natAbs<_
  rw[a9f]
  omega
 ·show(0:Int)<(q.den:Int)
  omega
theorem En(q:Rat)(h:Fits q):Fz 128 [A0 (frR q)] (A0 (XN.ofQ q).row):=by
 obtain⟨h1,h2⟩:=h
 exact Aj3 q.num q.den (by omega) (by omega) (by omega) (by omega)
def exU(p:PcQ)(t:XN):XN:=t.less (XN.ofQ p.f)
def exV(p:PcQ)(t:XN):XN:=(XN.ofQ p.a).plus (((XN.ofQ p.b).plus ((XN.ofQ p.c).times (exU p t))).times (exU p t))
def exD(p:PcQ)(t:XN):XN:=(XN.ofQ p.b).plus ((XN.ofQ 2).times ((XN.ofQ p.c).times (exU p t)))
theorem Nu{p:PcQ}{t:XN}{k:Nat}(hp:p.ok)(ht:t.bd k):(exU p t).bd (k+4):=(XN.bd_less ht (p0l hp.f)).mono (by omega)
theorem Nv{p:PcQ}{t:XN}{k:Nat}(hp:p.ok)(ht:t.bd k):(exV p t).bd (2*k+20):=by
 have u:=Nu hp ht
 exact(XN.bd_plus (p0l hp.a) (XN.bd_times (XN.bd_plus (p0l hp.b) (XN.bd_times (p0l hp.c) u)) u)).mono (by omega)
theorem A9p{p:PcQ}{t:XN}{k:Nat}(hp:p.ok)(ht:t.bd k):(exD p t).bd (k+20):=by
 have u:=Nu hp ht
 exact(XN.bd_plus (p0l hp.b) (XN.bd_times (p0l (by decide:Fits 2)) (XN.bd_times (p0l hp.c) u))).mono (by omega)
theorem A4z{p:PcQ}{t:XN}{k:Nat}(hp:p.ok)(ht:t.bd k):(exU p t).val=t.val-p.f:=by
 unfold exU
 rw[XN.val_less ht.p (p0l hp.f).p,XN.val_ofQ]
theorem Nw{p:PcQ}{t:XN}{k:Nat}(hp:p.ok)(ht:t.bd k):(exV p t).val=vR p t.val:=by
 have u:=Nu hp ht
 have b1:=XN.bd_times (p0l hp.c) u
 have b2:=XN.bd_plus (p0l hp.b) b1
 have b3:=XN.bd_times b2 u
 unfold exV vR
 rw[XN.val_plus (p0l hp.a).p b3.p,XN.val_times,XN.val_plus (p0l hp.b).p b1.p,XN.val_times,XN.val_ofQ,XN.val_ofQ,XN.val_ofQ,A4z hp ht]
theorem Afz{p:PcQ}{t:XN}{k:Nat}(hp:p.ok)(ht:t.bd k):(exD p t).val=sR p t.val:=by
 have u:=Nu hp ht
 have b1:=XN.bd_times (p0l hp.c) u
 have b2:=XN.bd_times (p0l (by decide:Fits 2)) b1
 unfold exD sR
 rw[XN.val_plus (p0l hp.b).p b2.p,XN.val_times,XN.val_times,XN.val_ofQ,XN.val_ofQ,XN.val_ofQ,A4z hp ht]
 grind
theorem p1p{x:XN}(hx:0<x.d):x.sgn<0↔x.val<0:=by
 rw[p3q hx,Int.sign_neg_iff,<-b1j,a4t,a2w]
theorem p1t{x:XN}(hx:0<x.d):x.sgn=0↔x.val=0:=by
 rw[p3q hx,b1f,a6f]
theorem p5b{x:XN}(hx:0<x.d):x.sgn<=0↔x.val<=0:=by
 have h1:=p1p hx
 have h2:=p1t hx
 constructor
 ·intro h
  by_cases e:x.sgn=0
  ·rw[h2.1 e];exact a2i
  ·exact a1e (h1.1 (by omega))
 ·intro h
  by_cases e:x.val=0
  ·rw[h2.2 e];exact a4w _
  ·have:=h1.2 (a4k h e)
   omega
theorem p2t{x y:XN}{j k:Nat}(hx:x.bd j)(hy:y.bd k):(x.less y).sgn<0↔x.val<y.val:=by
 rw[p1p (XN.bd_less hx hy).p,XN.val_less hx.p hy.p]
 constructor
 ·intro h;grind
 ·intro h;grind
theorem p3i{x y:XN}{j k:Nat}(hx:x.bd j)(hy:y.bd k):(x.less y).sgn<=0↔x.val<=y.val:=by
 rw[p5b (XN.bd_less hx hy).p,XN.val_less hx.p hy.p]
 constructor
 ·intro h;grind
 ·intro h;grind
theorem p4f{x y:XN}{j k:Nat}(hx:x.bd j)(hy:y.bd k):(x.less y).sgn=0↔x.val=y.val:=by
 rw[p1t (XN.bd_less hx hy).p,XN.val_less hx.p hy.p]
 constructor
 ·intro h;grind
 ·intro h;grind
theorem Ml(p:PcQ)(t:XN){k:Nat}(hp:p.ok)(ht:t.bd k)(hk:k<=400):Fz 130 [A0 p.row,A0 t.row] (A0 (exV p t).row):=by
 have u:=Nu hp ht
 have b1:=XN.bd_times (p0l hp.c) u
 have b2:=XN.bd_plus (p0l hp.b) b1
 have b3:=XN.bd_times b2 u
 have of:=En p.f hp.f
 have oa:=En p.a hp.a
 have ob:=En p.b hp.b
 have oc:=En p.c hp.c
 have c0:=Us ht (p0l hp.f) (by omega)
 have c1:=Ky (p0l hp.c) u (by omega)
 have c2:=Mn (p0l hp.b) b1 (by omega)
 have c3:=Ky b2 u (by omega)
 have c4:=Mn (p0l hp.a) b3 (by omega)
 refine Fo Tryz.func130 ?_
 repeat' first|refine WY ?_|refine Dw 15 ?_|refine Dv 15 ?_|refine Da ?_|refine V ?_|refine W2 ?_ ?_<;>intro hc
 exact D4 rfl rfl rfl rfl rfl rfl
def Hz(p:PcQ)(t:Rat):Prop:=sR p t<0\/sR p t=0/\p.c.num<0
instance (p:PcQ)(t:Rat):Decidable (Hz p t):=by unfold Hz;exact inferInstance
theorem A68(p:PcQ)(t:XN){k:Nat}(hp:p.ok)(ht:t.bd k)(hk:k<=400):Fz 131 [A0 p.row,A0 t.row] (.b (decide (Hz p t.val))):=by
 have u:=Nu hp ht
 have b1:=XN.bd_times (p0l hp.c) u
 have b2:=XN.bd_times (p0l (by decide:Fits 2)) b1
 have of:=En p.f hp.f
 have o2:Fz 65 [.i 2] (A0 (frR 2)):=Co 2
 have o2':=En 2 (by decide)
 have ob:=En p.b hp.b
 have oc:=En p.c hp.c
 have c0:=Us ht (p0l hp.f) (by omega)
 have c1:=Ky (p0l hp.c) u (by omega)
 have c2:=Ky (p0l (by decide:Fits 2)) b1 (by omega)
 have c3:=Mn (p0l hp.b) b2 (by omega)
 have c4:=Im (exD p t)
 have k1:=p1p (A9p hp ht).p
 have k2:=p1t (A9p hp ht).p
 rw[Afz hp ht]at k1 k2
 rw[show decide (Hz p t.val)=decide ((exD p t).sgn<0\/(exD p t).sgn=0/\p.c.num<0)from decide_eq_decide.2 (by unfold Hz;rw[k1,k2])]
 generalize hs:(exD p t).sgn=s at*
 refine Fo Tryz.func131 ?_
 repeat' first|refine WY ?_|refine Zc (o2') ?_|refine Dw 13 ?_|refine Dv 13 ?_|refine Da ?_|refine V ?_|refine W2 ?_ ?_<;>intro hc
 all_goals exact Dd rfl rfl (congrArg Value.bool (by first|(symm;apply decide_eq_true;omega)|(symm;apply decide_eq_false;omega)|(apply decide_eq_decide.2;omega)))
/-! ### enclosed -/
def I5(lo hi:Int):Int:=(lo+hi).tdiv 2
theorem A1j{lo hi:Int}(h:1<hi-lo):lo<I5 lo hi/\I5 lo hi<hi/\hi-I5 lo hi<=(hi-lo+1)/2/\I5 lo hi-lo<=(hi-lo+1)/2:=by
 unfold I5
 rcases a5q (lo+hi) 0 with h1|h1
 ·have:(lo+hi).tdiv 2= -((-(lo+hi))/2):=by
   rw[<-a4d (by omega:0<= -(lo+hi)),b1u,Int.neg_neg]
  rw[this]
  omega
 ·rw[a4d h1]
  omega
def L3(B:Int->Prop)[DecidablePred B]:Nat->Int->Int->Int
 |0,lo,_=>lo
 |n+1,lo,hi=>if 1<hi-lo then(if B (I5 lo hi)then L3 B n (I5 lo hi) hi else L3 B n lo (I5 lo hi))else lo
theorem Afw{B:Int->Prop}[DecidablePred B]{n:Nat}{lo hi:Int}(h:¬1<hi-lo):L3 B n lo hi=lo:=by
 cases n with
 |zero=>rfl
 |succ n=>rw[L3,if_neg h]
def Gq(p:PcQ)(x y:Rat)(bg:Bool)(m:Int):Prop:=mil m<=x\/bg=false/\mil m<=y/\0<=vR p (mil m)
instance (p:PcQ)(x y:Rat)(bg:Bool):DecidablePred (Gq p x y bg):=fun m=>by unfold Gq;exact inferInstance
def Lc(p:PcQ)(x y:Rat)(bg:Bool):Int:=L3 (Gq p x y bg) 52 (-2251799813685248) 2251799813685248
def Ov(p:PcQ)(x:Rat)(bg:Bool)(m:Int):Prop:=bg=true/\mil m=x\/bg=false/\x<=mil m/\vR p (mil m)=0/\Hz p (mil m)
instance (p:PcQ)(x:Rat)(bg:Bool)(m:Int):Decidable (Ov p x bg m):=by unfold Ov;exact inferInstance
def Gr(p:PcQ)(x y:Rat)(bg:Bool):List Lf:=if Ov p x bg (Lc p x y bg)then[.i (Lc p x y bg),.i (Lc p x y bg)]else[.i (Lc p x y bg),.i (Lc p x y bg+1)]
def p2f(m:Int):XN:=⟨m,1000⟩
theorem p2k(m:Int):(p2f m).val=mil m:=a8l m 1000
theorem p3z{m:Int}(h0: -9223372036854775808<=m)(h1:m<=9223372036854775807):(p2f m).bd 3:=by
 refine⟨?_,?_,?_⟩
 ·show m.natAbs<_
  omega
 ·show(1000:Int).natAbs<_
  decide
 ·show(0:Int)<1000
  decide
structure BisU where
 n:Nat
 lo:Int
 hi:Int
theorem Nl(p:PcQ)(x y:XN)(bg:Bool){j k:Nat}(hp:p.ok)(hx:x.bd j)(hy:y.bd k)(hj:j<=400)(hk:k<=400):Fz 133 [A0 p.row,A0 x.row,A0 y.row,.b bg] (A0 (Gr p x.val y.val bg)):=by
 have i1:Fz 136 [.i 1000] (A0 (zR 1000)):=Mm 1000 (by decide) (by decide)
 refine Fo Tryz.func133 ?_
 repeat' first|refine WX ?_|refine W2 ?_ ?_<;>intro hc
 refine p0c (fun(s:BisU)=>L3 (Gq p x.val y.val bg) s.n s.lo s.hi=Lc p x.val y.val bg/\s.hi-s.lo<=2^s.n/\ -2251799813685248<=s.lo/\s.lo<s.hi/\s.hi<=2251799813685248) (fun s=>(s.hi-s.lo).toNat) (fun s=>[(9,.i s.lo),(10,.i s.hi),(3,.b bg),(4,.ptr 0 0),(5,.ptr 1 0),(6,.ptr 2 0),(8,.ptr 3 0)]) (fun _=>[.live (p.row.map .lf),.live (x.row.map .lf),.live (y.row.map .lf),.live [.i 0,.i 0]]) ⟨52,-2251799813685248,2251799813685248⟩ ⟨rfl,by decide,by decide,by decide,by decide⟩ (.cons rfl rfl CV) CH ?_
 rintro⟨n,lo,hi⟩ ⟨hb,hn,h1,h2,h3⟩
 dsimp only at hb hn h1 h2 h3⊢
 by_cases hlt:1<hi-lo
 ·obtain⟨m1,m2,m3,m4⟩:=A1j hlt
  cases n with
  |zero=>exfalso;simp at hn;omega
  |succ n=>
   rw[L3,if_pos hlt]at hb
   have hn':hi-lo<=2*2^n:=by rw[a5s]at hn;omega
   have hw:IntKind.i64.wrap ((lo+hi).tdiv 2)=(lo+hi).tdiv 2:=Dy _ (by show-9223372036854775808<=I5 lo hi/\I5 lo hi<=_;omega)
   change lo<(lo+hi).tdiv 2 at m1
   change(lo+hi).tdiv 2<hi at m2
   change hi-(lo+hi).tdiv 2<=_ at m3
   change(lo+hi).tdiv 2-lo<=_ at m4
   change(if Gq p x.val y.val bg ((lo+hi).tdiv 2)then L3 (Gq p x.val y.val bg) n ((lo+hi).tdiv 2) hi else L3 (Gq p x.val y.val bg) n lo ((lo+hi).tdiv 2))=_ at hb
   have i2:=Mm ((lo+hi).tdiv 2) (by omega) (by omega)
   have bm:=p3z (m:=(lo+hi).tdiv 2) (by omega) (by omega)
   have d1:=Ly bm hx (by omega)
   have d2:=Ly bm hy (by omega)
   have d3:=Ml p (p2f ((lo+hi).tdiv 2)) hp bm (by omega)
   have d4:=Im (exV p (p2f ((lo+hi).tdiv 2)))
   have k1:=p3i bm hx
   have k2:=p3i bm hy
   have k3:=p1p (Nv hp bm).p
   rw[Nw hp bm,p2k]at k3
   rw[p2k]at k1 k2
   generalize((p2f ((lo+hi).tdiv 2)).less x).sgn=s1 at d1 k1
   generalize((p2f ((lo+hi).tdiv 2)).less y).sgn=s2 at d2 k2
   generalize(exV p (p2f ((lo+hi).tdiv 2))).sgn=s3 at d4 k3
   have kE:Gq p x.val y.val bg ((lo+hi).tdiv 2)↔s1<=0\/bg=false/\s2<=0/\0<=s3:=by
    unfold Gq
    rw[k1,k2,show(0<=vR p (mil ((lo+hi).tdiv 2)))↔0<=s3 by rw[<-Int.not_lt,k3,a1j]]
   have g1:hi-(lo+hi).tdiv 2<=2^n:=by generalize(2:Int)^n=W at*;omega
   have g2:(lo+hi).tdiv 2-lo<=2^n:=by generalize(2:Int)^n=W at*;omega
   clear hn hn'
   cases bg<;>simp only[true_and,reduceCtorEq,false_and,or_false,false_or]at kE
   all_goals
    repeat' first|refine WY ?_|(apply p3w;(iterate 3 exact rfl);omega;exact hw)|refine Da ?_|refine V ?_|refine W2 ?_ ?_<;>intro hc
    all_goals first
     |(change Next _ _ _ _ _ _;exact Next.go ⟨n,(lo+hi).tdiv 2,hi⟩ ⟨by rw[<-hb,if_pos (kE.2 (by omega))],g1,by dsimp only;omega,m2,h3⟩ (by dsimp only;omega) (.cons rfl rfl CV) CH)
     |(change Next _ _ _ _ _ _;exact Next.go ⟨n,lo,(lo+hi).tdiv 2⟩ ⟨by rw[<-hb,if_neg (fun h=>by have:=kE.1 h;omega)],g2,h1,m1,by dsimp only;omega⟩ (by dsimp only;omega) (.cons rfl rfl CV) CH)
     |(exfalso;omega)
 ·have hlo:Lc p x.val y.val bg=lo:=by rw[<-hb,Afw hlt]
  have i2:=Mm lo (by omega) (by omega)
  have bm:=p3z (m:=lo) (by omega) (by omega)
  have d1:=Ly bm hx (by omega)
  have d3:=Ml p (p2f lo) hp bm (by omega)
  have d4:=Im (exV p (p2f lo))
  have d5:=A68 p (p2f lo) hp bm (by omega)
  have k1:=p2t bm hx
  have k2:=p4f bm hx
  have k3:=p1t (Nv hp bm).p
  rw[Nw hp bm,p2k]at k3
  rw[p2k]at k1 k2 d5
  generalize((p2f lo).less x).sgn=s1 at d1 k1 k2
  generalize(exV p (p2f lo)).sgn=s3 at d4 k3
  have kI:Ov p x.val bg lo↔(bg=true/\s1=0\/bg=false/\0<=s1/\s3=0/\Hz p (mil lo)):=by
   unfold Ov
   rw[k2,k3,show(x.val<=mil lo)↔0<=s1 by rw[<-Int.not_lt,k1,a1j]]
  cases bg<;>simp only[true_and,reduceCtorEq,false_and,or_false,false_or]at kI
  ·skip
   repeat' first|refine WY ?_|refine Da ?_|refine V ?_|refine W2 ?_ ?_<;>intro hc
   all_goals first
    |(rw[show Gr p x.val y.val false=[.i lo,.i lo] by unfold Gr;rw[hlo];exact if_pos (kI.2 ⟨by omega,by omega,by assumption⟩)];exact D4 rfl rfl rfl rfl rfl rfl)
    |(rw[show Gr p x.val y.val false=[.i lo,.i (lo+1)] by unfold Gr;rw[hlo];exact if_neg (fun h=>by obtain⟨q1,q2,q3⟩:=kI.1 h;first|omega|exact absurd q3 (by assumption))];exact D4 rfl rfl rfl rfl rfl rfl)
  ·skip
   repeat' first|refine WY ?_|refine Da ?_|refine V ?_|refine W2 ?_ ?_<;>intro hc
   all_goals first
    |(rw[show Gr p x.val y.val true=[.i lo,.i lo] by unfold Gr;rw[hlo];exact if_pos (kI.2 (by omega))];exact D4 rfl rfl rfl rfl rfl rfl)
    |(rw[show Gr p x.val y.val true=[.i lo,.i (lo+1)] by unfold Gr;rw[hlo];exact if_neg (fun h=>by have:=kI.1 h;omega)];exact D4 rfl rfl rfl rfl rfl rfl)
def rfP(l:List PcQ)(fr:Rat)(k:Int):PcQ:=if k<0 then⟨fr,(A6 l 0).a,0,0⟩else A6 l k.toNat
def rfB(l:List PcQ)(fr:Rat)(k:Int):Rat:=if 0<=k/\fr<(A6 l k.toNat).f then(A6 l k.toNat).f else fr
def rfE(l:List PcQ)(te:Rat)(k:Int):Rat:=if k+1<l.length/\(A6 l (k+1).toNat).f<te then(A6 l (k+1).toNat).f else te
def Db(p:PcQ):Rat:=p.f+ -p.b/(2*p.c)
def rfS(p:PcQ)(b e:Rat):Option (List Lf):=
 if vR p b<0\/vR p b=0/\Hz p b/\b<e then some (Gr p b e true)else if vR p e<0 then some (Gr p b e false)else if p.c.num<=0 then none
 else if b<Db p/\Db p<e/\vR p (Db p)<0 then some (Gr p b (Db p) false)else none
def O4(l:List PcQ)(fr te:Rat)(k:Int):Option (List Lf):=rfS (rfP l fr k) (rfB l fr k) (rfE l te k)
def Gg(l:List PcQ)(fr te:Rat):Nat->Option (List Lf)
 |0=>none
 |j+1=>match Gg l fr te j with
  |some r=>some r
  |none=>O4 l fr te (rpI l fr+j)
def rfN(l:List PcQ)(fr te:Rat):Nat:=(rpI l te-rpI l fr+1).toNat
def Cc(l:List PcQ)(fr te:Rat):AV:=match Gg l fr te (rfN l fr te)with
 |some r=>.tup [A0 r,.i 0]
 |none=>spE 12
theorem H7{l:List PcQ}{fr te:Rat}{k:Nat}{r:List Lf}(h:Gg l fr te k=some r):∀n,k<=n->Gg l fr te n=some r:=by
 intro n hn
 induction n with
 |zero=>obtain rfl:k=0:=by omega
        exact h
 |succ n ih=>
  by_cases e:k=n+1
  ·subst e;exact h
  ·rw[Gg,ih (by omega)]
theorem Xh(p:PcQ)(x y:Rat)(bg:Bool):sp2 (Gr p x y bg):=by unfold Gr;split<;>exact⟨_,_,rfl⟩
def P3(p:PcQ):XN:=(XN.ofQ p.f).plus ((XN.mk (0-p.b.num) p.b.den).over ((XN.ofQ 2).times (XN.ofQ p.c)))
theorem Ag8{p:PcQ}(hp:p.ok)(hc:0<p.c.num):(P3 p).bd 20:=by
 have h1:=XN.bd_times (p0l (by decide:Fits 2)) (p0l hp.c)
 have h0:(XN.mk (0-p.b.num) p.b.den).bd 3:=by
  obtain⟨a1,a2,a3⟩:=p0l hp.b
  refine⟨?_,a2,a3⟩
  have:=a1.neg
  rwa[show-(XN.ofQ p.b).n=0-p.b.num by show-p.b.num=0-p.b.num;omega]at this
 have h2:=p2s h0 h1 (show 0<(2:Rat).num*p.c.num from a3s (by decide) hc)
 exact(XN.bd_plus (p0l hp.f) h2).mono (by omega)
theorem Adn{p:PcQ}(hp:p.ok)(hc:0<p.c.num):(P3 p).val=Db p:=by
 have h1:=XN.bd_times (p0l (by decide:Fits 2)) (p0l hp.c)
 have h0:(XN.mk (0-p.b.num) p.b.den).bd 3:=by
  obtain⟨a1,a2,a3⟩:=p0l hp.b
  refine⟨?_,a2,a3⟩
  have:=a1.neg
  rwa[show-(XN.ofQ p.b).n=0-p.b.num by show-p.b.num=0-p.b.num;omega]at this
 have h2:=p2s h0 h1 (show 0<(2:Rat).num*p.c.num from a3s (by decide) hc)
 unfold P3 Db
 rw[XN.val_plus (p0l hp.f).p h2.p,p4g,XN.val_times,XN.val_ofQ,XN.val_ofQ,XN.val_ofQ]
 congr 2
 unfold XN.val
 show Rat.divInt (0-p.b.num) p.b.den= -p.b
 rw[show(0:Int)-p.b.num= -p.b.num by omega,<-Rat.neg_divInt,a8l,a9a]
theorem p5a{x y:XN}{j k:Nat}(hx:x.bd j)(hy:y.bd k):0<(x.less y).sgn↔y.val<x.val:=by
 rw[<-b1j,p3i hx hy,a2w]
theorem Lx{l:List PcQ}(hl:okC l)(k:Nat):(A6 l k).ok:=by
 cases h:l[k]? with
 |some x=>rw[Bs h];exact hl x (a0a h)
 |none=>
  have:A6 l k=default:=by unfold A6;rw[a0i,h];rfl
  rw[this]
  exact⟨by decide,by decide,by decide,by decide⟩
theorem Ug{l:List PcQ}{k:Nat}(h:k<l.length):l[k]?=some (A6 l k):=by
 rw[a0b h]
 congr 1
 exact(Bs (a0b h)).symm
theorem E4(l:List PcQ)(t:Rat): -1<=rpI l t/\rpI l t<l.length:=by
 have:=A2x l t l.length
 unfold rpI
 omega
theorem Aie{l:List PcQ}(hl:okC l){fr:Rat}(hf:Fits fr)(k:Int):(rfP l fr k).ok:=by
 unfold rfP
 split
 ·exact⟨hf,(Lx hl 0).a,Fits.zero,Fits.zero⟩
 ·exact Lx hl _
theorem Aeq{l:List PcQ}(hl:okC l){fr:Rat}(hf:Fits fr)(k:Int):Fits (rfB l fr k):=by
 unfold rfB
 split
 ·exact(Lx hl _).f
 ·exact hf
theorem Aer{l:List PcQ}(hl:okC l){te:Rat}(ht:Fits te)(k:Int):Fits (rfE l te k):=by
 unfold rfE
 split
 ·exact(Lx hl _).f
 ·exact ht
theorem Aes(l:List PcQ)(fr te:Rat)(hl:okC l)(h0:l≠[])(hn:l.length<=1000)(hf:Fits fr)(ht:Fits te)(hle:fr<=te)(hr1:C2 fr)(hr2:C2 te):
  Fz 64 [.sl (l.map PcQ.row),A0 (frR fr),A0 (frR te)] (Cc l fr te):=by
 have o1:Fz 65 [.i 1099511627776] (A0 (frR 1099511627776)):=Co 1099511627776
 have o2:Fz 127 [A0 (frR 1099511627776)] (A0 (frR (-1099511627776))):=K4 1099511627776 (by decide)
 have c1:=Fs fr te hf ht
 have c2:=Fs fr (-1099511627776) hf (by decide)
 have c3:=Fs te 1099511627776 ht (by decide)
 have n1:¬0<Ay fr te:=fun h=>a1j.2 hle ((He _ _).1 h)
 have n2:¬Ay fr (-1099511627776)<0:=fun h=>a1j.2 hr1.1 ((Dr _ _).1 h)
 have n3:¬0<Ay te 1099511627776:=fun h=>a1j.2 hr2.2 ((He _ _).1 h)
 have p1:=Mo l fr hl hn hf
 have p2:=Mo l te hl hn ht
 have hll:=lmA l PcQ.row
 have hpos:0<l.length:=a1i.2 h0
 have hb0:(l.map PcQ.row)[(0:Int).toNat]?=some (A6 l 0).row:=by rw[show(0:Int).toNat=0 from rfl,a0d,Ug hpos];rfl
 refine Fo Tryz.func64 ?_
 repeat' first|refine WY ?_|refine Da ?_|refine V ?_|refine W2 ?_ ?_<;>intro hc
 refine p0c (fun j=>j<=rfN l fr te/\Gg l fr te j=none) (fun j=>rfN l fr te-j) (fun j=>[(9,.i (rpI l fr+(j:Int))),(0,.sl (l.map PcQ.row)),(4,.ptr 0 0),(5,.ptr 1 0),(6,.ptr 2 0)]) (fun _=>[.live ((frR fr).map .lf),.live ((frR te).map .lf),.live [.i 0,.i 0],.live ((frR 1099511627776).map .lf)]) 0 ⟨a0k _,rfl⟩ (.cons (by rw[show rpI l fr+((0:Nat):Int)=rpI l fr by omega];rfl) rfl CW) CG ?_
 rintro j ⟨hj,hsc⟩
 clear o1 o2 c1 c2 c3 n1 n2 n3 p1
 obtain⟨r1,r2⟩:=E4 l fr
 obtain⟨r3,r4⟩:=E4 l te
 have hsn:Gg l fr te (j+1)=O4 l fr te (rpI l fr+j):=by rw[Gg,hsc]
 have hN:rfN l fr te=(rpI l te-rpI l fr+1).toNat:=rfl
 obtain⟨kk,hkk⟩:∃kk,kk=rpI l fr+(j:Int):=⟨_,rfl⟩
 rw[<-hkk]at hsn⊢
 by_cases hlt:kk<=rpI l te
 ·have o0:Fz 65 [.i 0] (A0 (frR 0)):=Co 0
  have u1:=En fr hf
  have u2:=En te ht
  have okx:=Lx hl kk.toNat
  have oky:=Lx hl (kk+1).toNat
  have hbx:0<=kk->(l.map PcQ.row)[kk.toNat]?=some (A6 l kk.toNat).row:=fun h=>by rw[a0d,Ug (by omega)];rfl
  have hby:kk+1<(((l.map PcQ.row).length:Nat):Int)->(l.map PcQ.row)[(kk+1).toNat]?=some (A6 l (kk+1).toNat).row:=fun h=>by rw[a0d,Ug (by omega)];rfl
  have cx:=Fs (A6 l kk.toNat).f fr okx.f hf
  have cy:=Fs (A6 l (kk+1).toNat).f te oky.f ht
  have u3:=En _ okx.f
  have u4:=En _ oky.f
  obtain⟨p,hp⟩:∃p,p=rfP l fr kk:=⟨_,rfl⟩
  obtain⟨b,hb⟩:∃b,b=rfB l fr kk:=⟨_,rfl⟩
  obtain⟨e,he⟩:∃e,e=rfE l te kk:=⟨_,rfl⟩
  have okp:p.ok:=hp▸Aie hl hf kk
  have fb:Fits b:=hb▸Aeq hl hf kk
  have fe:Fits e:=he▸Aer hl ht kk
  have hst:O4 l fr te kk=rfS p b e:=by rw[O4,<-hp,<-hb,<-he]
  have hP1:¬0<=kk->p=⟨fr,(A6 l 0).a,0,0⟩:=fun h=>by rw[hp,rfP,if_pos (by omega)]
  have hP2:0<=kk->p=A6 l kk.toNat:=fun h=>by rw[hp,rfP,if_neg (by omega)]
  have hB1:¬0<=kk->b=fr:=fun h=>by rw[hb,rfB,if_neg (fun q=>h q.1)]
  have hB2:0<=kk->0<Ay (A6 l kk.toNat).f fr->b=(A6 l kk.toNat).f:=fun h q=>by rw[hb,rfB,if_pos ⟨h,(He _ _).1 q⟩]
  have hB3:¬0<Ay (A6 l kk.toNat).f fr->b=fr:=fun q=>by rw[hb,rfB,if_neg (fun r=>q ((He _ _).2 r.2))]
  have hE1:kk+1<(((l.map PcQ.row).length:Nat):Int)->Ay (A6 l (kk+1).toNat).f te<0->e=(A6 l (kk+1).toNat).f:=fun h q=>by rw[he,rfE,if_pos ⟨by omega,(Dr _ _).1 q⟩]
  have hE2:¬kk+1<(((l.map PcQ.row).length:Nat):Int)->e=te:=fun h=>by rw[he,rfE,if_neg (fun q=>h (by omega))]
  have hE3:¬Ay (A6 l (kk+1).toNat).f te<0->e=te:=fun q=>by rw[he,rfE,if_neg (fun r=>q ((Dr _ _).2 r.2))]
  repeat' first|refine WY ?_|(apply S.indexR;(iterate 3 exact rfl);exact hbx (by assumption);omega;exact rfl)|(apply S.indexR;(iterate 3 exact rfl);exact hby (by assumption);omega;exact rfl)|refine Zb5 ?_|(refine p1f 9 ([(10,.ptr 4 0),(11,.ptr 5 0),(12,.ptr 6 0),(9,.i kk),(0,.sl (l.map PcQ.row)),(4,.ptr 0 0),(5,.ptr 1 0),(6,.ptr 2 0)]) ([.live ((frR fr).map .lf),.live ((frR te).map .lf),.live [.i 0,.i 0],.live ((frR 1099511627776).map .lf),.live (p.row.map .lf),.live ((XN.ofQ b).row.map .lf),.live ((XN.ofQ te).row.map .lf)]) ?_ ?_)|(refine p5y 13 ([(10,.ptr 4 0),(11,.ptr 5 0),(12,.ptr 6 0),(9,.i kk),(0,.sl (l.map PcQ.row)),(4,.ptr 0 0),(5,.ptr 1 0),(6,.ptr 2 0)]) ([.live ((frR fr).map .lf),.live ((frR te).map .lf),.live [.i 0,.i 0],.live ((frR 1099511627776).map .lf),.live (p.row.map .lf),.live ((XN.ofQ b).row.map .lf),.live ((XN.ofQ e).row.map .lf)]) ?_ ?_)|refine Dw 10 ?_|refine Da ?_|refine V ?_|refine W2 ?_ ?_<;>intro hc
  all_goals try first
   |exact p1k CW (by rw[hP1 (by assumption),hB1 (by assumption)];exact CG)
   |exact p1k CW (by rw[hP2 (by assumption),hB2 (by assumption) (by assumption)];exact CG)
   |exact p1k CW (by rw[hP2 (by assumption),hB3 (by assumption)];exact CG)
   |exact p1k CW (by rw[hE1 (by assumption) (by assumption)];exact CG)
   |exact p1k CW (by rw[hE2 (by assumption)];exact CG)
   |exact p1k CW (by rw[hE3 (by assumption)];exact CG)
  refine⟨?_⟩
  clear hP1 hP2 hB1 hB2 hB3 hE1 hE2 hE3 hbx hby cx cy u3 u4 okx oky u1 u2 o0 p2 hb0
  have bb:=p0l fb
  have be:=p0l fe
  have x1:=Ml p (XN.ofQ b) okp bb (by decide)
  have x2:=Ml p (XN.ofQ e) okp be (by decide)
  have s1:=Im (exV p (XN.ofQ b))
  have s2:=Im (exV p (XN.ofQ e))
  have w1:=A68 p (XN.ofQ b) okp bb (by decide)
  have m1:=Ly bb be (by decide)
  have g1:=Nl p (XN.ofQ b) (XN.ofQ e) true okp bb be (by decide) (by decide)
  have g2:=Nl p (XN.ofQ b) (XN.ofQ e) false okp bb be (by decide) (by decide)
  have k1:=p1p (Nv okp bb).p
  have k2:=p1t (Nv okp bb).p
  have k3:=p1p (Nv okp be).p
  have k4:=p2t bb be
  rw[Nw okp bb,XN.val_ofQ]at k1 k2
  rw[Nw okp be,XN.val_ofQ]at k3
  rw[XN.val_ofQ]at w1
  rw[XN.val_ofQ,XN.val_ofQ]at g1 g2 k4
  obtain⟨a1,a2,ha⟩:=Xh p b e true
  obtain⟨a3,a4,ha'⟩:=Xh p b e false
  rw[ha]at g1
  rw[ha']at g2
  generalize(exV p (XN.ofQ b)).sgn=z1 at s1 k1 k2
  generalize(exV p (XN.ofQ e)).sgn=z2 at s2 k3
  generalize((XN.ofQ b).less (XN.ofQ e)).sgn=z3 at m1 k4
  by_cases hc:p.c.num<=0
  ·have hS:rfS p b e=if z1<0\/z1=0/\Hz p b/\z3<0 then some [.i a1,.i a2]else if z2<0 then some [.i a3,.i a4]else none:=by
    unfold rfS
    rw[ha,ha',if_pos hc]
    simp only[k1,k2,k3,k4]
   repeat' first|refine WY ?_|refine Dw 22 ?_|refine Da ?_|refine V ?_|refine W2 ?_ ?_<;>intro hc
   all_goals first
    |(rw[show Cc l fr te=.tup [A0 [.i a1,.i a2],.i 0] by unfold Cc;rw[H7 (k:=j+1) (by rw[hsn,hst,hS];exact if_pos (.inl (by omega))) _ (by omega)]];exact D3 rfl rfl rfl rfl rfl rfl rfl)
    |(rw[show Cc l fr te=.tup [A0 [.i a1,.i a2],.i 0] by unfold Cc;rw[H7 (k:=j+1) (by rw[hsn,hst,hS];exact if_pos (.inr ⟨by omega,by assumption,by omega⟩)) _ (by omega)]];exact D3 rfl rfl rfl rfl rfl rfl rfl)
    |(rw[show Cc l fr te=.tup [A0 [.i a3,.i a4],.i 0] by unfold Cc;rw[H7 (k:=j+1) (by rw[hsn,hst,hS];exact(if_neg (fun h=>by rcases h with h|⟨h,h2,h3⟩<;>first|omega|exact absurd h2 (by assumption))).trans (if_pos (by omega))) _ (by omega)]];exact D3 rfl rfl rfl rfl rfl rfl rfl)
    |(change Next _ _ _ _ _ _;exact Next.go (j+1) ⟨by omega,by rw[hsn,hst,hS];exact(if_neg (fun h=>by rcases h with h|⟨h,h2,h3⟩<;>first|omega|exact absurd h2 (by assumption))).trans (if_neg (by omega))⟩ (by omega) (.cons (by rw[show rpI l fr+((j+1:Nat):Int)=kk+1 by omega];rfl) rfl CW) CG)
    |(exfalso;omega)
  ·have hc':0<p.c.num:=by omega
   have bl:=Ag8 okp hc'
   have lv:=Adn okp hc'
   have h1:=XN.bd_times (p0l (by decide:Fits 2)) (p0l okp.c)
   have h0':(XN.mk (0-p.b.num) p.b.den).bd 3:=by
    obtain⟨a1,a2,a3⟩:=p0l okp.b
    refine⟨?_,a2,a3⟩
    have:=a1.neg
    rwa[show-(XN.ofQ p.b).n=0-p.b.num by show-p.b.num=0-p.b.num;omega]at this
   have hbn:=okp.b.1
   have hbd:=okp.b.2
   have t1:=En p.f okp.f
   have t2:=Mm (0-p.b.num) (by omega) (by omega)
   have t3:=Mm (p.b.den:Int) (by omega) (by omega)
   have t4:Fz 65 [.i 2] (A0 (frR 2)):=Co 2
   have t5:=En 2 (by decide)
   have t6:=En p.c okp.c
   have t7:=Ky (p0l (by decide:Fits 2)) (p0l okp.c) (by decide)
   have t8:=Aeu h0' h1 (by decide)
   have t9:=Mn (p0l okp.f) (p2s h0' h1 (show 0<(2:Rat).num*p.c.num from a3s (by decide) hc')) (by decide)
   have m2:=Ly bl bb (by decide)
   have m3:=Ly bl be (by decide)
   have x3:=Ml p (P3 p) okp bl (by decide)
   have s3:=Im (exV p (P3 p))
   have g3:=Nl p (XN.ofQ b) (P3 p) false okp bb bl (by decide) (by decide)
   have k5:=p5a bl bb
   have k6:=p2t bl be
   have k7:=p1p (Nv okp bl).p
   rw[Nw okp bl,lv]at k7
   rw[lv,XN.val_ofQ]at k5 k6
   rw[lv,XN.val_ofQ]at g3
   obtain⟨a5,a6,ha2⟩:=Xh p b (Db p) false
   rw[ha2]at g3
   generalize((P3 p).less (XN.ofQ b)).sgn=z4 at m2 k5
   generalize((P3 p).less (XN.ofQ e)).sgn=z5 at m3 k6
   generalize(exV p (P3 p)).sgn=z6 at s3 k7
   have hS:rfS p b e=if z1<0\/z1=0/\Hz p b/\z3<0 then some [.i a1,.i a2]else if z2<0 then some [.i a3,.i a4]else if 0<z4/\z5<0/\z6<0 then some [.i a5,.i a6]else none:=by
    unfold rfS
    rw[ha,ha',if_neg hc,ha2]
    simp only[k1,k2,k3,k4,k5,k6,k7]
   repeat' first|refine WY ?_|refine Dw 22 ?_|refine Da ?_|refine V ?_|refine W2 ?_ ?_<;>intro hc
   all_goals first
    |(rw[show Cc l fr te=.tup [A0 [.i a1,.i a2],.i 0] by unfold Cc;rw[H7 (k:=j+1) (by rw[hsn,hst,hS];exact if_pos (.inl (by omega))) _ (by omega)]];exact D3 rfl rfl rfl rfl rfl rfl rfl)
    |(rw[show Cc l fr te=.tup [A0 [.i a1,.i a2],.i 0] by unfold Cc;rw[H7 (k:=j+1) (by rw[hsn,hst,hS];exact if_pos (.inr ⟨by omega,by assumption,by omega⟩)) _ (by omega)]];exact D3 rfl rfl rfl rfl rfl rfl rfl)
    |(rw[show Cc l fr te=.tup [A0 [.i a3,.i a4],.i 0] by unfold Cc;rw[H7 (k:=j+1) (by rw[hsn,hst,hS];exact(if_neg (fun h=>by rcases h with h|⟨h,h2,h3⟩<;>first|omega|exact absurd h2 (by assumption))).trans (if_pos (by omega))) _ (by omega)]];exact D3 rfl rfl rfl rfl rfl rfl rfl)
    |(rw[show Cc l fr te=.tup [A0 [.i a5,.i a6],.i 0] by unfold Cc;rw[H7 (k:=j+1) (by rw[hsn,hst,hS];exact(if_neg (fun h=>by rcases h with h|⟨h,h2,h3⟩<;>first|omega|exact absurd h2 (by assumption))).trans ((if_neg (by omega)).trans (if_pos ⟨by omega,by omega,by omega⟩))) _ (by omega)]];exact D3 rfl rfl rfl rfl rfl rfl rfl)
    |(change Next _ _ _ _ _ _;exact Next.go (j+1) ⟨by omega,by rw[hsn,hst,hS];exact(if_neg (fun h=>by rcases h with h|⟨h,h2,h3⟩<;>first|omega|exact absurd h2 (by assumption))).trans ((if_neg (by omega)).trans (if_neg (fun h=>by omega)))⟩ (by omega) (.cons (by rw[show rpI l fr+((j+1:Nat):Int)=kk+1 by omega];rfl) rfl CW) CG)
    |(exfalso;omega)
 ·have hjN:j=rfN l fr te:=by omega
  repeat' first|refine WX ?_|refine W2 ?_ ?_<;>intro hc
  rw[show Cc l fr te=spE 12 by unfold Cc;rw[<-hjN,hsc]]
  exact D3 rfl rfl rfl rfl rfl rfl rfl
end Go.Proofs.YtcaicpnepfjcmaaGreat
namespace Go.Proofs.YtcaicpnepfjcmaaGreat
/-! ### The A7m of a list, none if there is a none -/
/-! ### What both reckon -/
/-! ### The program's loop -/
/-! ### Where the times lie -/
theorem Aev(l:List PcQ)(t:Rat){m n:Nat}(h:m<=n):rpN l t m<=rpN l t n:=by
 induction n with
 |zero=>obtain rfl:m=0:=by omega
        exact a0n _
 |succ n ih=>
  by_cases e:m=n+1
  ·subst e;exact a0n _
  ·have:=ih (by omega)
   have h2:=A2x l t n
   rw[rpN]
   split<;>omega
theorem Xy{l:List PcQ}{t:Rat}:∀{n i:Nat},i<rpN l t n->(A6 l i).f<=t
 |0,i,h=>by simp[rpN]at h
 |n+1,i,h=>by
  rw[rpN]at h
  split at h
  ·rename_i hc
   by_cases e:i=n
   ·subst e;exact hc.2
   ·exact Xy (n:=n) (by rw[hc.1];omega)
  ·exact Xy h
theorem O5{l:List PcQ}(hs:Ag l)(t:Rat){i:Nat}(hi:i<l.length):(A6 l i).f<=t↔(i:Int)<=rpI l t:=by
 unfold rpI
 constructor
 ·intro h
  have h1:=Ut hs t i hi h
  have h2:=Aev l t (m:=i+1) (n:=l.length) hi
  omega
 ·intro h
  exact Xy (n:=l.length) (by omega)
theorem Wr{a b c:Rat}(h:a<b)(k:b<=c):a<c:=a2w.1 fun h2=>a1j.2 (a1c k h2) h
theorem Aih{a b c:Rat}(h:a<=b)(k:b<c):a<c:=a2w.1 fun h2=>a1j.2 (a1c h2 h) k
section
variable {l:List PcQ}{fr te:Rat}(hs:Ag l)(hle:fr<=te)
include hs
theorem Aid:rfB l fr (rpI l fr)=fr:=by
 obtain⟨r1,r2⟩:=E4 l fr
 unfold rfB
 rw[if_neg]
 rintro⟨h0,h1⟩
 exact a1j.2 ((O5 hs fr (i:=(rpI l fr).toNat) (by omega)).2 (by omega)) h1
theorem Abq{i:Nat}(h:rpI l fr<i)(hi:i<l.length):rfB l fr i=(A6 l i).f/\fr<(A6 l i).f:=by
 have h1:fr<(A6 l i).f:=a2w.1 fun h2=>by have:=(O5 hs fr hi).1 h2;omega
 unfold rfB
 rw[if_pos ⟨by omega,by rw[a0q];exact h1⟩,a0q]
 exact⟨rfl,h1⟩
end
/-! ### A piece -/
theorem M0(p:PcQ)(a t:Rat):vR p t-vR p a=(t-a)*(sR p a+p.c*(t-a)):=by unfold vR sR;grind
theorem Ahg(p:PcQ)(a t:Rat):vR p t-vR p a=(t-a)*(sR p t-p.c*(t-a)):=by unfold vR sR;grind
theorem A6f(p:PcQ)(a t:Rat):sR p t=sR p a+2*(p.c*(t-a)):=by unfold sR;grind
theorem disc(p:PcQ)(t:Rat):4*p.a*p.c-p.b*p.b=4*(p.c*vR p t)-sR p t*sR p t:=by unfold vR sR;grind
theorem Zu(x:Rat):0<=x*x:=by
 rcases(Rat.le_total:(0:Rat)<=x\/x<=0)with h|h
 ·exact a7i h h
 ·have:=a7i (a:= -x) (b:= -x) (by grind) (by grind)
  grind
theorem dip{p:PcQ}{a s t:Rat}(h1:a<=s)(h2:s<=t)(ha:0<=vR p a)(hs:vR p s<0)(ht:0<=vR p t):0<p.c/\sR p a<0/\0<sR p t:=by
 have n1:a<s:=a4k h1 (fun e=>by subst e;exact absurd hs (a1j.2 ha))
 have n2:s<t:=a4k h2 (fun e=>by subst e;exact absurd hs (a1j.2 ht))
 have d1:0<s-a:=by grind
 have d2:0<t-s:=by grind
 have e1:=Ahg p a s
 have e2:=M0 p s t
 have g1:sR p s-p.c*(s-a)<0:=(a2j d1).1 (by rw[<-e1];grind)
 have g2:0<sR p s+p.c*(t-s):=(a4b d2).1 (by rw[<-e2];grind)
 have g3:0<(t-a)*p.c:=by grind
 have hc:0<p.c:=(a4b (by grind)).1 g3
 have k1:=b0v hc d1
 have k2:=b0v hc d2
 have k3:=A6f p a s
 have k4:=A6f p s t
 exact⟨hc,by grind,by grind⟩
theorem Ag9{p:PcQ}(hc:0<p.c):2*p.c*(Db p-p.f)= -p.b:=by
 unfold Db
 have h:2*p.c≠0:=by grind
 have:=Rat.mul_div_cancel (a:= -p.b) h
 grind
theorem Sw{p:PcQ}(hc:0<p.c)(t:Rat):sR p t=2*p.c*(t-Db p):=by
 have:=Ag9 hc
 unfold sR
 grind
theorem Pw{p:PcQ}(hc:0<p.c)(t:Rat):sR p t<0↔t<Db p:=by
 rw[Sw hc,a2j (by grind)]
 constructor<;>intro h<;>grind
theorem Px{p:PcQ}(hc:0<p.c)(t:Rat):0<sR p t↔Db p<t:=by
 rw[Sw hc,a4b (by grind)]
 constructor<;>intro h<;>grind
theorem A16{p:PcQ}(hc:0<p.c):4*p.a*p.c-p.b*p.b<0↔vR p (Db p)<0:=by
 have h1:sR p (Db p)=0:=by rw[Sw hc];grind
 rw[disc p (Db p),h1]
 have k:=a2j hc (b:=vR p (Db p))
 constructor
 ·intro h;exact k.1 (by grind)
 ·intro h;have:=k.2 h;grind
theorem No{p:PcQ}{a t:Rat}(h:C6 p a t):a<t/\∃s,a<=s/\s<=t/\vR p s<0:=by
 obtain⟨h1,h2⟩:=h
 refine⟨h1,?_⟩
 rcases h2 with(h2|h2)|⟨hc,h3,h4,h5⟩
 ·exact⟨a,a2i,a1e h1,h2⟩
 ·exact⟨t,a1e h1,a2i,h2⟩
 ·exact⟨Db p,a1e ((Pw hc a).1 h3),a1e ((Px hc t).1 h4),(A16 hc).1 h5⟩
theorem Gj{p:PcQ}{a s t:Rat}(h0:a<t)(h1:a<=s)(h2:s<=t)(hs:vR p s<0):C6 p a t:=by
 refine⟨h0,?_⟩
 by_cases ha:vR p a<0
 ·exact .inl (.inl ha)
 by_cases ht:vR p t<0
 ·exact .inl (.inr ht)
 obtain⟨hc,g1,g2⟩:=dip h1 h2 (a1j.1 ha) hs (a1j.1 ht)
 refine .inr ⟨hc,g1,g2,?_⟩
 rw[disc p s]
 have k1:=(a2j hc (b:=vR p s)).2 hs
 have k2:=Zu (sR p s)
 grind
theorem A93{p:PcQ}{a t t':Rat}(h:C6 p a t)(ht:t<=t'):C6 p a t':=by
 obtain⟨h0,s,h1,h2,h3⟩:=No h
 exact Gj (Wr h0 ht) h1 (a1c h2 ht) h3
theorem Nk(q:Rat):q.num<0↔q<0:=by rw[<-b1j,a4t,a2w]
theorem A1c{p:PcQ}{a t:Rat}(h0:vR p a=0)(hf:Hz p a)(ht:a<t):C6 p a t:=by
 have d:0<t-a:=by grind
 rcases hf with hf|⟨hf,hc⟩
 ·rcases(Rat.le_total:p.c<=0\/0<=p.c)with hc|hc
  ·refine Gj ht (a1e ht) a2i ?_
   have e:=M0 p a t
   have g:sR p a+p.c*(t-a)<0:=by
    have:=a7i (a:= -p.c) (b:=t-a) (by grind) (by grind)
    grind
   have:=(a2j d).2 g
   grind
  ·by_cases hc0:p.c=0
   ·refine Gj ht (a1e ht) a2i ?_
    have e:=M0 p a t
    have:=(a2j d (b:=sR p a)).2 hf
    rw[hc0]at e
    grind
   ·have hcp:0<p.c:=a4k hc (fun e=>hc0 e.symm)
    have hl:=(Pw hcp a).1 hf
    obtain⟨s,s1,s2,s3⟩:∃s,a<s/\s<=t/\s<=Db p:=by
     by_cases e:t<=Db p
     ·exact⟨t,ht,a2i,e⟩
     ·exact⟨Db p,hl,a1e (a2w.1 e),a2i⟩
    refine Gj ht (a1e s1) s2 ?_
    have ds:0<s-a:=by grind
    have e:=M0 p a s
    have g:sR p a+p.c*(s-a)<0:=by
     rw[Sw hcp a]
     have:=b0v hcp ds
     have:=a7i (a:=p.c) (b:=Db p-s) (a1e hcp) (by grind)
     grind
    have:=(a2j ds).2 g
    grind
 ·refine Gj ht (a1e ht) a2i ?_
  have e:=M0 p a t
  have hc':=(Nk _).1 hc
  have g:sR p a+p.c*(t-a)<0:=by
   have:=b0v (a:= -p.c) (b:=t-a) (by grind) d
   grind
  have:=(a2j d).2 g
  grind
/-! ### Milliseconds -/
theorem Eh(m:Int):1000*mil m=(m:Rat):=by
 unfold mil
 rw[Rat.mkRat_eq_div]
 have:((1000:Nat):Rat)=1000:=rfl
 rw[this]
 have h:(1000:Rat)≠0:=by decide
 grind
theorem Xg(q:Rat):((q.den:Int):Rat)*q=(q.num:Rat):=by
 have h1:=a9a q
 rw[Rat.mkRat_eq_div]at h1
 have h2:((q.den:Int):Rat)=(q.den:Rat):=Rat.intCast_natCast _
 have h3:(0:Rat)<((q.den:Int):Rat):=b0t.2 (by have:=q.den_pos;omega)
 rw[h2]at h3⊢
 have h4:(q.den:Rat)≠0:=by grind
 conv=>lhs;rw[<-h1]
 grind
theorem Age{m:Int}{q:Rat}:mil m<=q↔m*q.den<=1000*q.num:=by
 have hd:(0:Rat)<((q.den:Int):Rat):=b0t.2 (by have:=q.den_pos;omega)
 rw[<-a4f,a2h,a2h,<-Xg q,<-Eh m,show((1000:Int):Rat)=1000 from rfl]
 constructor
 ·intro h
  have:=b0l h (a1e hd)
  grind
 ·intro h
  exact b1i (c:=((q.den:Int):Rat)) (by grind) hd
theorem le_mil{m:Int}{q:Rat}:q<=mil m↔1000*q.num<=m*q.den:=by
 have hd:(0:Rat)<((q.den:Int):Rat):=b0t.2 (by have:=q.den_pos;omega)
 rw[<-a4f,a2h,a2h,<-Xg q,<-Eh m,show((1000:Int):Rat)=1000 from rfl]
 constructor
 ·intro h
  have:=b0l h (a1e hd)
  grind
 ·intro h
  exact b1i (c:=((q.den:Int):Rat)) (by grind) hd
theorem mil_le{m:Int}{q:Rat}:mil m<=q↔m<=Ca q:=by
 rw[Age,Ca,b1q (by have:=q.den_pos;omega)]
theorem P5{m n:Int}(h:m<=n):mil m<=mil n:=by
 have h1:=Eh m
 have h2:=Eh n
 have h3:(m:Rat)<=(n:Rat):=a4f.2 h
 grind
theorem A20{q:Rat}:Je q↔mil (Ca q)=q:=by
 have hd:(0:Int)<q.den:=by have:=q.den_pos;omega
 have h1:mil (Ca q)<=q:=mil_le.2 (a4w _)
 have h2:=Int.emod_add_mul_ediv (1000*q.num) q.den
 have h3:=a4v (1000*q.num) (show(q.den:Int)≠0 by omega)
 have h4:(q.den:Int)*(1000*q.num/q.den)=Ca q*q.den:=a5r _ _
 unfold Je
 constructor
 ·intro h
  refine b0u h1 (le_mil.2 ?_)
  omega
 ·intro h
  have:=le_mil.1 (show q<=mil (Ca q) by rw[h];exact a2i)
  omega
/-! ### Searches -/
theorem Mw{B:Int->Prop}[DecidablePred B]:∀{n:Nat}{lo hi:Int},B lo->¬B hi->lo<hi->hi-lo<=2^n->B (L3 B n lo hi)/\¬B (L3 B n lo hi+1)
 |0,lo,hi,h1,h2,h3,h4=>by
  have:hi=lo+1:=by simp at h4;omega
  subst this
  exact⟨h1,h2⟩
 |n+1,lo,hi,h1,h2,h3,h4=>by
  rw[L3]
  by_cases h:1<hi-lo
  ·obtain⟨m1,m2,m3,m4⟩:=A1j h
   have h4':hi-lo<=2*2^n:=by rw[a5s]at h4;omega
   have g1:hi-I5 lo hi<=2^n:=by generalize(2:Int)^n=W at*;omega
   have g2:I5 lo hi-lo<=2^n:=by generalize(2:Int)^n=W at*;omega
   rw[if_pos h]
   split
   ·rename_i hB;exact Mw hB h2 m2 g1
   ·rename_i hB;exact Mw h1 hB m1 g2
  ·rw[if_neg h]
   have:hi=lo+1:=by omega
   subst this
   exact⟨h1,h2⟩
theorem Oh{B:Int->Prop}[DecidablePred B]:∀{n:Nat}{lo hi:Int},¬B lo->B hi->lo<hi->hi-lo<=2^n->¬B (bis B n lo hi)/\B (bis B n lo hi+1)
 |0,lo,hi,h1,h2,h3,h4=>by
  have:hi=lo+1:=by simp at h4;omega
  subst this
  exact⟨h1,h2⟩
 |n+1,lo,hi,h1,h2,h3,h4=>by
  rw[bis]
  by_cases h:1<hi-lo
  ·have h4':hi-lo<=2*2^n:=by rw[a5s]at h4;omega
   have g1:hi-(lo+(hi-lo)/2)<=2^n:=by generalize(2:Int)^n=W at*;omega
   have g2:lo+(hi-lo)/2-lo<=2^n:=by generalize(2:Int)^n=W at*;omega
   rw[if_pos h]
   split
   ·rename_i hB;exact Oh h1 hB (by omega) g2
   ·rename_i hB;exact Oh hB h2 (by omega) g1
  ·rw[if_neg h]
   have:hi=lo+1:=by omega
   subst this
   exact⟨h1,h2⟩
theorem Ys{P:Int->Prop}(hm:∀m n:Int,m<=n->P n->P m){r s:Int}(h1:P r)(h2:¬P (r+1))(h3:P s)(h4:¬P (s+1)):r=s:=by
 rcases a5l r s with h|h|h
 ·exact absurd (hm (r+1) s (by omega) h3) h2
 ·exact h
 ·exact absurd (hm (s+1) r (by omega) h1) h4
theorem W7(q:Rat):q.num<=0↔q<=0:=by
 have h:=a4t (q:= -q)
 rw[Rat.neg_num]at h
 constructor
 ·intro h1
  have:=h.1 (by omega)
  grind
 ·intro h1
  have:=h.2 (by grind)
  omega
theorem A5n{q:Rat}(h:C2 q):mil (-2251799813685248)<=q:=by
 have h1:=Eh (-2251799813685248)
 rw[show((-2251799813685248:Int):Rat)= -2251799813685248 from rfl]at h1
 have:=h.1
 grind
theorem A21{q:Rat}(h:C2 q):q<mil 2251799813685248:=by
 have h1:=Eh 2251799813685248
 rw[show((2251799813685248:Int):Rat)=2251799813685248 from rfl]at h1
 have:=h.2
 grind
theorem Lh{q:Rat}(h:C2 q): -1099511627776000<=Ca q/\Ca q<=1099511627776000:=by
 constructor
 ·refine mil_le.1 ?_
  have h1:=Eh (-1099511627776000)
  rw[show((-1099511627776000:Int):Rat)= -1099511627776000 from rfl]at h1
  have:=h.1
  grind
 ·rcases a5q 1099511627776000 (Ca q)with h2|h2
  ·exfalso
   have h3:=mil_le.2 (show(1099511627776001:Int)<=Ca q by omega)
   have h1:=Eh 1099511627776001
   rw[show((1099511627776001:Int):Rat)=1099511627776001 from rfl]at h1
   have:=h.2
   grind
  ·exact h2
theorem Z0{a e:Rat}(h:a<=e):Ca a<=Ca e:=mil_le.1 (a1c (mil_le.2 (a4w _)) h)
theorem Ads(q:Rat):q<mil (Ca q+1):=a2w.1 fun h=>by have:=mil_le.1 h;omega
theorem Vm{q:Rat}{r:Int}(h1:mil r<=q)(h2:¬mil (r+1)<=q):r=Ca q:=
 Ys (P:=fun m=>mil m<=q) (fun m n hmn h=>a1c (P5 hmn) h) h1 h2 (mil_le.2 (a4w _)) (a2w.2 (Ads q))
theorem A19{p:PcQ}{a y:Rat}(h:C2 a):Gr p a y true=enQ a:=by
 have hP:∀m,Gq p a y true m↔mil m<=a:=fun m=>by unfold Gq;simp
 obtain⟨s1,s2⟩:=Mw (B:=Gq p a y true) (n:=52) ((hP _).2 (A5n h)) (fun e=>absurd ((hP _).1 e) (a2w.2 (A21 h))) (by decide) (by decide)
 have e:Lc p a y true=Ca a:=Vm ((hP _).1 s1) fun e=>s2 ((hP _).2 e)
 have hI:Ov p a true (Ca a)↔Je a:=by unfold Ov;rw[A20];simp
 unfold Gr enQ
 rw[e]
 by_cases hx:Je a
 ·rw[if_pos (hI.2 hx),if_pos hx]
 ·rw[if_neg (fun q=>hx (hI.1 q)),if_neg hx]
theorem Ad3{e t t':Rat}(h:t<=t'):Ei e t<=Ei e t':=by
 unfold Ei
 split<;>split
 ·exact a2i
 ·rename_i h1 h2;exact absurd (Wr h1 h) h2
 ·rename_i h1 h2;exact a1j.1 h1
 ·exact h
theorem Ad9{p:PcQ}{a e:Rat}(ha:C2 a)(he:C2 e)(hae:a<e)(h0:vR p a=0)(hf:Hz p a):Ig p a e=enQ a:=by
 have hP:∀m,¬Gs p a e m↔mil m<=a:=fun m=>by
  unfold Gs Ei
  constructor
  ·intro h
   refine a1j.1 fun h1=>h (A1c h0 hf ?_)
   split
   ·exact hae
   ·exact h1
  ·intro h
   rw[if_neg (a1j.2 (a1c h (a1e hae)))]
   exact fun h1=>a1j.2 h h1.1
 obtain⟨r1,r2⟩:=Lh ha
 obtain⟨r3,r4⟩:=Lh he
 have hm:=Z0 (a1e hae)
 have k2:Gs p a e (Ca e+2):=a8d fun h=>by
  have h1:=mil_le.1 ((hP _).1 h)
  omega
 obtain⟨s1,s2⟩:=Oh (B:=Gs p a e) (n:=64) ((hP _).2 (mil_le.2 (a4w _))) k2 (by omega) (by omega)
 have e1:Ki p a e=Ca a:=Vm ((hP _).1 s1) fun q=>(hP _).2 q s2
 have hI:Nj p a (Ca a)↔Je a:=by
  rw[A20]
  unfold Nj
  constructor
  ·intro h;exact b0u (mil_le.2 (a4w _)) h.1
  ·intro h
   rw[h]
   refine⟨a2i,h0,?_⟩
   rcases hf with hf|hf
   ·exact .inl hf
   ·exact .inr ⟨hf.1,(Nk _).1 hf.2⟩
 unfold Ig enQ
 rw[e1]
 by_cases hx:Je a
 ·rw[if_pos (hI.2 hx),if_pos hx]
 ·rw[if_neg (fun q=>hx (hI.1 q)),if_neg hx]
theorem A55{p:PcQ}{a y e:Rat}(ha:C2 a)(he:C2 e)(hye:y<=e)(hbe:C6 p a e)(hpt:∀t,(t<=a\/t<=y/\0<=vR p t)↔¬C6 p a (Ei e t)):Ig p a e=Gr p a y false:=by
 have hae:=hbe.1
 have hP:∀m,Gq p a y false m↔¬Gs p a e m:=fun m=>by
  unfold Gq Gs
  rw[<-hpt]
  simp
 obtain⟨r1,r2⟩:=Lh ha
 obtain⟨r3,r4⟩:=Lh he
 have hm:=Z0 (a1e hae)
 have k1:∀m,mil m<=a->Gq p a y false m:=fun m h=>.inl h
 have k2:∀m,e<mil m->¬Gq p a y false m:=fun m h=>by
  rintro(h1|h1)
  ·exact a1j.2 (a1c h1 (a1e hae)) h
  ·exact a1j.2 (a1c h1.2.1 hye) h
 obtain⟨s1,s2⟩:=Mw (B:=Gq p a y false) (n:=52) (k1 _ (A5n ha)) (k2 _ (A21 he)) (by decide) (by decide)
 have k3:Gs p a e (Ca e+2):=a8d fun h=>k2 (Ca e+2) (a2w.1 fun q=>by have:=mil_le.1 q;omega) ((hP _).2 h)
 obtain⟨s3,s4⟩:=Oh (B:=Gs p a e) (n:=64) ((hP _).1 (k1 _ (mil_le.2 (a4w _)))) k3 (by omega) (by omega)
 have e1:Lc p a y false=Ki p a e:=by
  refine Ys (P:=Gq p a y false) (fun m n hmn h=>?_) s1 s2 ((hP _).2 s3) (fun q=>(hP _).1 q s4)
  exact(hP m).2 fun q=>(hP n).1 h (A93 q (Ad3 (P5 hmn)))
 have hI:∀m,Ov p a false m↔Nj p a m:=fun m=>by
  unfold Ov Nj Hz
  rw[Nk]
  simp
 unfold Ig Gr
 rw[e1]
 by_cases hx:Nj p a (Ki p a e)
 ·rw[if_pos hx,if_pos ((hI _).2 hx)]
 ·rw[if_neg hx,if_neg fun q=>hx ((hI _).1 q)]
theorem Aca{p:PcQ}{a e:Rat}(ha:C2 a)(he:C2 e)(hae:a<=e):
  (if vR p a<0 then some (enQ a)else if C6 p a e then some (Ig p a e)else none)=rfS p a e:=by
 unfold rfS
 by_cases h1:vR p a<0
 ·rw[if_pos h1,if_pos (.inl h1),A19 ha]
 rw[if_neg h1]
 by_cases h2:vR p a=0/\Hz p a/\a<e
 ·rw[if_pos (show vR p a<0\/vR p a=0/\Hz p a/\a<e from .inr h2),if_pos (show C6 p a e from A1c h2.1 h2.2.1 h2.2.2),A19 ha,Ad9 ha he h2.2.2 h2.1 h2.2.1]
 rw[if_neg (show ¬(vR p a<0\/vR p a=0/\Hz p a/\a<e)from fun h=>h.elim h1 h2)]
 have g1:0<=vR p a:=a1j.1 h1
 by_cases h3:vR p e<0
 ·have hlt:a<e:=a4k hae fun q=>by subst q;exact h1 h3
  have hbe:C6 p a e:=Gj hlt hae a2i h3
  rw[if_pos hbe,if_pos h3]
  congr 1
  refine A55 ha he a2i hbe fun t=>?_
  constructor
  ·rintro(h4|⟨h4,h5⟩) h6
   ·refine a1j.2 ?_ h6.1
    unfold Ei
    rw[if_neg (a1j.2 (a1c h4 hae))]
    exact h4
   ·have hcut:Ei e t=t:=by unfold Ei;rw[if_neg (a1j.2 h4)]
    rw[hcut]at h6
    obtain⟨q0,s,q1,q2,q3⟩:=No h6
    obtain⟨d1,d2,d3⟩:=dip q1 q2 g1 q3 h5
    have d4:=M0 p t e
    have d5:=a7i (a:=e-t) (b:=sR p t+p.c*(e-t)) (by grind) (by
     have:=a7i (a:=p.c) (b:=e-t) (a1e d1) (by grind)
     grind)
    grind
  ·intro h4
   by_cases h5:t<=a
   ·exact .inl h5
   ·refine .inr ?_
    have h5':=a2w.1 h5
    by_cases h6:e<t
    ·exfalso
     apply h4
     unfold Ei
     rw[if_pos h6]
     exact hbe
    ·have hcut:Ei e t=t:=by unfold Ei;rw[if_neg h6]
     rw[hcut]at h4
     exact⟨a1j.1 h6,a1j.1 fun h7=>h4 (Gj h5' (a1e h5') a2i h7)⟩
 rw[if_neg h3]
 have g2:0<=vR p e:=a1j.1 h3
 by_cases hc:p.c.num<=0
 ·rw[if_pos hc,if_neg]
  intro h
  obtain⟨q0,s,q1,q2,q3⟩:=No h
  have:=(dip q1 q2 g1 q3 g2).1
  exact absurd this (a1j.2 ((W7 _).1 hc))
 ·rw[if_neg hc]
  have hcp:0<p.c:=a2w.1 fun h=>hc ((W7 _).2 h)
  by_cases h4:a<Db p/\Db p<e/\vR p (Db p)<0
  ·obtain⟨h4,h5,h6⟩:=h4
   have hlt:a<e:=Wr h4 (a1e h5)
   have hbe:C6 p a e:=Gj hlt (a1e h4) (a1e h5) h6
   rw[if_pos hbe,if_pos (show a<Db p/\Db p<e/\vR p (Db p)<0 from⟨h4,h5,h6⟩)]
   congr 1
   refine A55 ha he (a1e h5) hbe fun t=>?_
   constructor
   ·rintro(h7|⟨h7,h8⟩) h9
    ·refine a1j.2 ?_ h9.1
     unfold Ei
     rw[if_neg (a1j.2 (a1c h7 hae))]
     exact h7
    ·have hcut:Ei e t=t:=by unfold Ei;rw[if_neg (a1j.2 (a1c h7 (a1e h5)))]
     rw[hcut]at h9
     obtain⟨q0,s,q1,q2,q3⟩:=No h9
     exact a1j.2 h7 ((Px hcp t).1 (dip q1 q2 g1 q3 h8).2.2)
   ·intro h7
    by_cases h8:t<=a
    ·exact .inl h8
    ·refine .inr ?_
     have h8':=a2w.1 h8
     by_cases h9:Db p<t
     ·exfalso
      apply h7
      have:Db p<=Ei e t:=by
       unfold Ei
       split
       ·exact a1e h5
       ·exact a1e h9
      exact Gj (Wr h4 this) (a1e h4) this h6
     ·have h9':=a1j.1 h9
      have hcut:Ei e t=t:=by unfold Ei;rw[if_neg (a1j.2 (a1c h9' (a1e h5)))]
      rw[hcut]at h7
      exact⟨h9',a1j.1 fun q=>h7 (Gj h8' (a1e h8') a2i q)⟩
  ·rw[if_neg h4,if_neg]
   intro h
   obtain⟨q0,s,q1,q2,q3⟩:=No h
   obtain⟨d1,d2,d3⟩:=dip q1 q2 g1 q3 g2
   refine h4 ⟨(Pw hcp a).1 d2,(Px hcp e).1 d3,?_⟩
   have k1:=disc p s
   have k2:=(a2j hcp (b:=vR p s)).2 q3
   have k3:=Zu (sR p s)
   exact(A16 hcp).1 (by grind)
/-! ### The pieces one after the other -/
theorem H3(x:PcQ)(l:List PcQ)(i:Nat):A6 (x::l) (i+1)=A6 l i:=by unfold A6;simp
theorem Afs(l:List PcQ)(fr:Rat)(i:Nat):A6 (A5 l fr) i=rfP l fr ((i:Int)-1):=by
 unfold A5 rfP
 cases i with
 |zero=>rw[if_pos (by decide)];rfl
 |succ i=>rw[if_neg (by omega),H3,show(((i+1:Nat):Int)-1).toNat=i by omega]
theorem Aas(l:List PcQ)(fr:Rat)(i:Nat):ptA (A5 l fr) fr i=rfB l fr ((i:Int)-1):=by
 unfold ptA rfB
 cases i with
 |zero=>rw[if_neg (fun h=>absurd h.1 (by decide)),if_neg (fun h=>absurd h.1 (by decide))]
 |succ i=>
  have e:(((i+1:Nat):Int)-1).toNat=i:=by omega
  rw[e,A5,H3]
  by_cases h:fr<(A6 l i).f
  ·rw[if_pos ⟨by omega,h⟩,if_pos ⟨by omega,h⟩]
  ·rw[if_neg fun q=>h q.2,if_neg fun q=>h q.2]
theorem Aib(l:List PcQ)(fr te:Rat)(i:Nat):ptB (A5 l fr) te i=rfE l te ((i:Int)-1):=by
 unfold ptB rfE
 have e:((i:Int)-1+1).toNat=i:=by omega
 have e2:(A5 l fr).length=l.length+1:=rfl
 rw[e,e2,A5,H3]
 by_cases h:i<l.length/\(A6 l i).f<te
 ·rw[if_pos ⟨by omega,h.2⟩,if_pos ⟨by omega,h.2⟩]
 ·rw[if_neg fun q=>h ⟨by omega,q.2⟩,if_neg fun q=>h ⟨by omega,q.2⟩]
theorem A67{l:List PcQ}{fr te:Rat}(hs:Ag l)(hle:fr<=te){k:Int}(h1:rpI l fr<=k)(h2:k<=rpI l te):
  fr<=rfB l fr k/\rfB l fr k<=te/\(k+1<l.length->rfB l fr k<(A6 l (k+1).toNat).f):=by
 obtain⟨r1,r2⟩:=E4 l fr
 obtain⟨r3,r4⟩:=E4 l te
 by_cases e:rpI l fr=k
 ·rw[<-e,Aid hs]
  refine⟨a2i,hle,fun h4=>a2w.1 fun h5=>?_⟩
  have:=(O5 hs fr (i:=(rpI l fr+1).toNat) (by omega)).1 h5
  omega
 ·obtain⟨i,rfl⟩:∃i:Nat,k=i:=⟨k.toNat,by omega⟩
  obtain⟨h4,h5⟩:=Abq hs (fr:=fr) (i:=i) (by omega) (by omega)
  rw[h4]
  refine⟨a1e h5,(O5 hs te (by omega)).2 h2,fun h6=>?_⟩
  rw[show((i:Int)+1).toNat=i+1 by omega]
  exact hs i (by omega)
theorem Z6{l:List PcQ}{fr te:Rat}(hs:Ag l)(hle:fr<=te){i:Nat}(hi:i<=l.length):¬B8 (A5 l fr) fr te i↔rpI l fr<=(i:Int)-1/\(i:Int)-1<=rpI l te:=by
 obtain⟨r1,r2⟩:=E4 l fr
 obtain⟨r3,r4⟩:=E4 l te
 have e2:(A5 l fr).length=l.length+1:=rfl
 unfold B8
 rw[Aas,e2,show A6 (A5 l fr) (i+1)=A6 l i from H3 _ _ _]
 have hge:fr<=rfB l fr ((i:Int)-1):=by
  unfold rfB
  split
  ·rename_i h;exact a1e h.2
  ·exact a2i
 constructor
 ·intro h
  constructor
  ·rcases a5q ((i:Int)-1) (rpI l fr)with h1|h1
   ·exfalso
    have h2:(A6 l i).f<=fr:=(O5 hs fr (i:=i) (by omega)).2 (by omega)
    exact h (.inr ⟨by omega,a1c h2 hge⟩)
   ·exact h1
  ·rcases a5q (rpI l te) ((i:Int)-1)with h1|h1
   ·exfalso
    apply h
    refine .inl ?_
    have h2:te<(A6 l (i-1)).f:=a2w.1 fun h3=>by have:=(O5 hs te (i:=i-1) (by omega)).1 h3;omega
    unfold rfB
    rw[show((i:Int)-1).toNat=i-1 by omega,if_pos ⟨by omega,Aih hle h2⟩]
    exact h2
   ·exact h1
 ·rintro⟨h1,h2⟩ h
  obtain⟨b1,b2,b3⟩:=A67 hs hle h1 h2
  rcases h with h|h
  ·exact a1j.2 b2 h
  ·have:=b3 (by omega)
   rw[show((i:Int)-1+1).toNat=i by omega]at this
   exact a1j.2 h.2 this
theorem Af9{l:List PcQ}{fr te:Rat}(hs:Ag l)(hle:fr<=te)(hr1:C2 fr)(hr2:C2 te){i:Nat}(hi:i<=l.length):
  D0 (A5 l fr) fr te i=if rpI l fr<=(i:Int)-1/\(i:Int)-1<=rpI l te then O4 l fr te ((i:Int)-1)else none:=by
 unfold D0
 by_cases h:rpI l fr<=(i:Int)-1/\(i:Int)-1<=rpI l te
 ·rw[if_neg ((Z6 hs hle hi).2 h),if_pos h,Afs,Aas,Aib,O4]
  obtain⟨b1,b2,b3⟩:=A67 hs hle h.1 h.2
  have b4:rfB l fr ((i:Int)-1)<=rfE l te ((i:Int)-1)/\rfE l te ((i:Int)-1)<=te:=by
   unfold rfE
   split
   ·rename_i h4;exact⟨a1e (b3 h4.1),a1e h4.2⟩
   ·exact⟨b2,a2i⟩
  refine Aca ⟨a1c hr1.1 b1,a1c b2 hr2.2⟩ ⟨a1c hr1.1 (a1c b1 b4.1),a1c b4.2 hr2.2⟩ b4.1
 ·rw[if_pos (a8d fun q=>h ((Z6 hs hle hi).1 q)),if_neg h]
theorem Zp{l:List PcQ}{fr te:Rat}(hs:Ag l)(hle:fr<=te)(hr1:C2 fr)(hr2:C2 te):∀i:Nat,i<=l.length+1->Fa (A5 l fr) fr te i=Gg l fr te (min ((i:Int)-1-rpI l fr).toNat (rfN l fr te))
 |0,_=>by
  obtain⟨r1,r2⟩:=E4 l fr
  rw[show((0:Nat):Int)-1-rpI l fr= -1-rpI l fr by omega,show(-1-rpI l fr).toNat=0 by omega,Nat.zero_min];rfl
 |i+1,hi=>by
  obtain⟨r1,r2⟩:=E4 l fr
  have hN:rfN l fr te=(rpI l te-rpI l fr+1).toNat:=rfl
  rw[Fa,Zp hs hle hr1 hr2 i (by omega),Af9 hs hle hr1 hr2 (by omega)]
  by_cases h:rpI l fr<=(i:Int)-1/\(i:Int)-1<=rpI l te
  ·rw[if_pos h,show min (((i+1:Nat):Int)-1-rpI l fr).toNat (rfN l fr te)=min ((i:Int)-1-rpI l fr).toNat (rfN l fr te)+1 by omega,Gg]
   rw[show rpI l fr+((min ((i:Int)-1-rpI l fr).toNat (rfN l fr te):Nat):Int)=(i:Int)-1 by omega]
   cases Gg l fr te (min ((i:Int)-1-rpI l fr).toNat (rfN l fr te))<;>rfl
  ·rw[if_neg h,show min (((i+1:Nat):Int)-1-rpI l fr).toNat (rfN l fr te)=min ((i:Int)-1-rpI l fr).toNat (rfN l fr te) by omega]
   split
   ·rename_i h2;rw[h2]
   ·rename_i h2;rw[h2]
theorem A7j{l:List PcQ}{fr te:Rat}(hs:Ag l)(hle:fr<=te)(hr1:C2 fr)(hr2:C2 te):By l fr te=Cc l fr te:=by
 obtain⟨r1,r2⟩:=E4 l fr
 obtain⟨r3,r4⟩:=E4 l te
 have hN:rfN l fr te=(rpI l te-rpI l fr+1).toNat:=rfl
 unfold By Cc
 rw[show(A5 l fr).length=l.length+1 from rfl,Zp hs hle hr1 hr2 _ (a0n _),show min (((l.length+1:Nat):Int)-1-rpI l fr).toNat (rfN l fr te)=rfN l fr te by omega]
 cases Gg l fr te (rfN l fr te)<;>rfl
end Go.Proofs.YtcaicpnepfjcmaaGreat
