/- Lemmas of the proof. -/
import Derived.Test.YtcaicpnepfjcmaaGreatNk
set_option linter.all false
set_option maxHeartbeats 64000000
namespace Go.Proofs.YtcaicpnepfjcmaaGreat
open Go Go.RowKit
def a6v:= @List.pairwise_cons
def b2v:= @List.flatten_append
def b2w:= @List.getElem_of_mem
def B6(l:List CueR):Nat:=(l.filter fun q=>q.link=1).length
theorem Yw(l:List CueR)(q:CueR):B6 (l++[q])=B6 l+(if q.link=1 then 1 else 0):=by
 unfold B6
 rw[List.filter_append,a0s]
 by_cases h:q.link=1<;>simp[h]
theorem H1{l:List CueR}{k:Nat}{q:CueR}(hq:l[k]?=some q)(h:q.link=1):B6 (l.take (k+1))=B6 (l.take k)+1:=by rw[Ad hq,Yw,if_pos h]
theorem Jx{l:List CueR}{k:Nat}{q:CueR}(hq:l[k]?=some q)(h:¬q.link=1):B6 (l.take (k+1))=B6 (l.take k):=by rw[Ad hq,Yw,if_neg h];rfl
theorem Iv(l:List CueR):B6 l<=l.length:=List.length_filter_le _ _
theorem Aaa(l:List CueR){a b:Nat}(h:a<=b):B6 (l.take a)<=B6 (l.take b):=by
 rw[show l.take a=(l.take b).take a by rw[List.take_take,a5m h]]
 unfold B6
 exact((List.take_sublist a (l.take b)).filter _).length_le
theorem A5l{l:List CueR}{k:Nat}{q:CueR}(hq:l[k]?=some q)(h:q.link=1):B6 (l.take k)<B6 l:=by
 have h1:=H1 hq h
 have hk:=(a0f.1 hq).1
 have h2:=Aaa l (show k+1<=l.length by omega)
 rw[a1l]at h2
 omega
def D6(l:List CueR)(q:CueR):Nat:=(Bl l q.after).toNat
def hgI(l:List CueR)(q:CueR):Int:=if q.link=1 then-1 else Bl l q.after
def hgL(l:List CueR):List Int:=l.map (hgI l)
structure LkQ(l:List CueR)(k:Nat)(q:CueR):Prop where
 name:Ec q.name=true
 self:Bl l q.name=(k:Int)
 delay:0<=q.delay/\q.delay<=2147483648
 link:1<=q.link/\q.link<=3
 man:q.link=1->q.after=⟨#[]⟩
 aft:¬q.link=1->Bl l q.after=(D6 l q:Int)/\D6 l q<k
def LkP(l:List CueR):Prop:=∀k q,l[k]?=some q->LkQ l k q
theorem validP.lk{h:HouseR}{c:SheetR}(v:validP h c):LkP c.cues:=fun k q hq=>by
 obtain⟨_,hr,hn,h1,h2⟩:=v.2.2.1 k q hq
 refine⟨hr.1,(Hn (p:=fun x:CueR=>x.name=q.name) hq rfl).2 hn,hr.2.2.1,hr.2.1,h1,fun hl=>?_⟩
 obtain⟨y,hy,e⟩:=h2 hl
 have hi:0<=Bl c.cues q.after/\Bl c.cues q.after<(k:Nat):=idx_lt_iff.2 ⟨y,hy,e⟩
 unfold D6
 omega
def fsV(l:List CueR)(G:List Int)(k:Nat):Int:=match l[k]? with|some q=>if q.link=1 then G.getD (B6 (l.take k)) 0+q.delay else 0|none=>0
def fsK(l:List CueR)(G:List Int)(k:Nat):List Int:=(List.range k).map (fsV l G)
theorem Sd(l:List CueR)(G:List Int)(k:Nat):(fsK l G k).length=k:=by simp[fsK]
theorem A1f(l:List CueR)(G:List Int)(k:Nat):fsK l G (k+1)=fsK l G k++[fsV l G k]:=by simp[fsK,a6w]
def stV(l:List CueR)(L G S:List Int)(k:Nat):Int:=match l[k]? with
 |some q=>if q.link=1 then G.getD (B6 (l.take k)) 0+q.delay else if q.link=2 then S.getD (D6 l q) 0+q.delay+L.getD (D6 l q) 0 else S.getD (D6 l q) 0+q.delay
 |none=>0
def stK(l:List CueR)(L G:List Int):Nat->List Int
 |0=>[]
 |k+1=>stK l L G k++[stV l L G (stK l L G k) k]
theorem Dk(l:List CueR)(L G:List Int):∀k,(stK l L G k).length=k
 |0=>rfl
 |k+1=>by rw[stK,a0s,Dk l L G k];rfl
theorem T0(l:List CueR)(L G:List Int){j k:Nat}(h:j<k):(stK l L G k)[j]?=some (stV l L G (stK l L G j) j):=by
 induction k with
 |zero=>omega
 |succ k ih=>
  rw[stK]
  by_cases e:j=k
  ·subst e
   rw[a1h (by rw[Dk];omega),Dk,a6q];rfl
  ·rw[a1k (by rw[Dk];omega)]
   exact ih (by omega)
def Ep(n:Int):Prop:=¬(0<=n/\n<=2147483648)
instance (n:Int):Decidable (Ep n):=by unfold Ep;exact inferInstance
def Et(l:List Int):Prop:=∃x∈l,Ep x
noncomputable instance (l:List Int):Decidable (Et l):=Classical.propDecidable _
noncomputable def stE(l:List CueR)(L G:List Int):Int:=if L.length≠l.length\/G.length≠B6 l then 3 else if Et L\/Et G then 2 else 0
theorem G3{l:List Int}(h:¬Et l)(i:Nat):0<=l.getD i 0/\l.getD i 0<=2147483648:=by
 rw[a0i]
 cases e:l[i]? with
 |none=>simp
 |some x=>
  have:¬Ep x:=fun hw=>h ⟨x,a0a e,hw⟩
  unfold Ep at this
  exact a3h.1 this
theorem Ac9{l:List CueR}{L G S:List Int}{k:Nat}(hl:LkP l)(hL:¬Et L)(hG:¬Et G)(hS:∀j,j<k->0<=S.getD j 0/\S.getD j 0<=(k:Int)*4294967296):0<=stV l L G S k/\stV l L G S k<=((k:Int)+1)*4294967296:=by
 unfold stV
 cases e:l[k]? with
 |none=>dsimp only;omega
 |some q=>
  obtain⟨_,_,hd,_,_,ha⟩:=hl k q e
  dsimp only
  have g1:=G3 hG (B6 (l.take k))
  have g2:=G3 hL (D6 l q)
  split
  ·omega
  ·rename_i hm
   obtain⟨_,a2⟩:=ha hm
   have:=hS _ a2
   split<;>omega
theorem Nc{l:List CueR}{L G:List Int}(hl:LkP l)(hL:¬Et L)(hG:¬Et G):∀k j,j<k->0<=(stK l L G k).getD j 0/\(stK l L G k).getD j 0<=(k:Int)*4294967296
 |0,j,h=>by omega
 |k+1,j,h=>by
  have ih:=Nc hl hL hG k
  have hb:=Ac9 hl hL hG ih
  rw[stK,a0i]
  by_cases e:j=k
  ·subst e
   rw[a1h (by rw[Dk];omega),Dk,a6q]
   simp only[a2f,a1a]
   omega
  ·rw[a1k (by rw[Dk];omega),<-a0i]
   have:=ih j (by omega)
   omega
def Fm(l:List CueR)(L G:List Int)(k:Nat):List Int:=stK l L G k++(fsK l G l.length).drop k
theorem Ag2(l:List CueR)(G:List Int){j k:Nat}(h:j<k):(fsK l G k)[j]?=some (fsV l G j):=by
 unfold fsK
 rw[a0d,a2u h];rfl
theorem Adp(l:List CueR)(L G:List Int){k:Nat}(h:k<=l.length):(Fm l L G k).length=l.length:=by
 unfold Fm
 rw[a0s,Dk,a4z,Sd];omega
theorem Yz(l:List CueR)(L G:List Int){k:Nat}(h:k<l.length):Fm l L G k=stK l L G k++fsV l G k::(fsK l G l.length).drop (k+1):=by
 unfold Fm
 have:=Ag2 l G h
 rw[a0f]at this
 obtain⟨h1,h2⟩:=this
 rw[a6i h1,h2]
theorem Sy{α:Type}(A B:List α)(x y:α){n:Nat}(h:A.length=n):(A++x::B).set n y=A++y::B:=by
 subst h
 rw[a7l _ _ (a0n _),a6q];rfl
theorem Adr(l:List CueR)(L G:List Int){k:Nat}(h:k<l.length):(Fm l L G k).set k (stV l L G (stK l L G k) k)=Fm l L G (k+1):=by
 rw[Yz l L G h,Sy _ _ _ _ (Dk l L G k)]
 unfold Fm
 rw[stK,a3i];rfl
theorem Adq{l:List CueR}{L G:List Int}{k:Nat}{q:CueR}(hq:l[k]?=some q)(hm:q.link=1):Fm l L G (k+1)=Fm l L G k:=by
 have h:=(a0f.1 hq).1
 rw[Yz l L G h]
 unfold Fm
 have h1:stV l L G (stK l L G k) k=fsV l G k:=by unfold stV fsV;rw[hq];simp only[hm,if_true]
 rw[stK,h1,a3i];rfl
theorem Aab(l:List CueR)(L G:List Int):Fm l L G l.length=stK l L G l.length:=by
 unfold Fm
 rw[b1r (by rw[Sd];exact a0n _),a1u]
theorem Agc{l:List CueR}{L G:List Int}{j k:Nat}(h:j<k):(Fm l L G k)[j]?=some ((stK l L G k).getD j 0):=by
 unfold Fm
 rw[a1k (by rw[Dk];exact h),T0 l L G h,a0i,T0 l L G h];rfl
def Ih(l:List CueR)(G:List Int)(k:Nat):List Int:=fsK l G k++List.replicate (l.length-k) 0
theorem Adb(l:List CueR)(G:List Int){k:Nat}(h:k<=l.length):(Ih l G k).length=l.length:=by
 unfold Ih
 rw[a0s,Sd,a2z];omega
theorem Yp(l:List CueR)(G:List Int){k:Nat}(h:k<l.length):Ih l G k=fsK l G k++0::List.replicate (l.length-(k+1)) 0:=by
 unfold Ih
 rw[show l.length-k=(l.length-(k+1))+1 by omega,a6l]
theorem Adc{l:List CueR}{G:List Int}{k:Nat}{q:CueR}(hq:l[k]?=some q)(hm:q.link=1):(Ih l G k).set k (G.getD (B6 (l.take k)) 0+q.delay)=Ih l G (k+1):=by
 rw[Yp l G (a0f.1 hq).1,Sy _ _ _ _ (Sd l G k)]
 unfold Ih
 rw[A1f,a3i,show fsV l G k=G.getD (B6 (l.take k)) 0+q.delay by unfold fsV;rw[hq];simp only[hm,if_true]]
 rfl
theorem Ag3{l:List CueR}{G:List Int}{k:Nat}{q:CueR}(hq:l[k]?=some q)(hm:¬q.link=1):Ih l G (k+1)=Ih l G k:=by
 rw[Yp l G (a0f.1 hq).1]
 unfold Ih
 rw[A1f,a3i,show fsV l G k=0 by unfold fsV;rw[hq];simp only[hm,if_false]]
 rfl
theorem A9v(l:List CueR)(L G:List Int):Ih l G l.length=Fm l L G 0:=by
 unfold Ih Fm
 rw[a6q]
 simp[stK]
def E9(n k:Nat):List Bool:=List.replicate k true++List.replicate (n-k) false
theorem Jr{n k:Nat}(h:k<n):(E9 n k).set k true=E9 n (k+1):=by
 unfold E9
 rw[show n-k=(n-(k+1))+1 by omega,a6l,Sy _ _ _ _ (a2z ..),List.replicate_succ',a3i];rfl
theorem Ic{n k j:Nat}(h:j<k):(E9 n k)[j]?=some true:=by
 unfold E9
 rw[a1k (by rw[a2z];exact h),a3z,if_pos h]
theorem Afy{n k:Nat}(h:k<n):(E9 n k)[k]?=some false:=by
 unfold E9
 rw[a1h (by rw[a2z];exact a0n _),a2z,a6q,a3z,if_pos (by omega)]
theorem A17{n k:Nat}(h:k<=n):(E9 n k).length=n:=by
 unfold E9
 rw[a0s,a2z,a2z];omega
/-! ### Lengths, starts, ends -/
def Adm(h:HouseR)(c:SheetR)(k:Nat):Rat:=match c.cues[k]? with|some q=>C9 h (B5 h c k) q.moves|none=>0
theorem Si{h:HouseR}{c:SheetR}{k:Nat}{q:CueR}(hq:c.cues[k]?=some q):Adm h c k=C9 h (B5 h c k) q.moves:=by unfold Adm;rw[hq]
def msQ(h:HouseR)(c:SheetR)(k:Nat):Rat:=1000*Adm h c k
def upI(q:Rat):Int:= -(-q.num/q.den)
def msI(h:HouseR)(c:SheetR)(k:Nat):Int:=upI (msQ h c k)
def Tz(h:HouseR)(c:SheetR):Prop:=∃k,k<c.cues.length/\¬Fits (msQ h c k)
noncomputable instance (h:HouseR)(c:SheetR):Decidable (Tz h c):=Classical.propDecidable _
def E0(h:HouseR)(c:SheetR)(n:Nat):List Int:=(List.range n).map (msI h c)
theorem Ce(h:HouseR)(c:SheetR)(n:Nat):(E0 h c n).length=n:=by simp[E0]
theorem Vw(h:HouseR)(c:SheetR)(n:Nat):E0 h c (n+1)=E0 h c n++[msI h c n]:=by simp[E0,a6w]
theorem Aa6(h:HouseR)(c:SheetR){j n:Nat}(hj:j<n):(E0 h c n)[j]?=some (msI h c j):=by
 unfold E0
 rw[a0d,a2u hj];rfl
abbrev B0(h:HouseR)(c:SheetR):List Int:=E0 h c c.cues.length
noncomputable def mdE(h:HouseR)(c:SheetR)(G:List Int):Int:=if Tz h c then 5 else stE c.cues (B0 h c) G
def stL(h:HouseR)(c:SheetR)(G:List Int):List Int:=stK c.cues (B0 h c) G c.cues.length
theorem E6(h:HouseR)(c:SheetR)(G:List Int):(stL h c G).length=c.cues.length:=Dk _ _ _ _
structure PlanOk(h:HouseR)(c:SheetR)(G:List Int):Prop where
 v:validP h c
 fit:¬Tz h c
 man:G.length=B6 c.cues
 len:¬Et (B0 h c)
 given:¬Et G
theorem Aap{h:HouseR}{c:SheetR}{G:List Int}(v:validP h c)(e:mdE h c G=0):PlanOk h c G:=by
 unfold mdE at e
 split at e
 ·cases e
 ·rename_i hb
  unfold stE at e
  split at e
  ·cases e
  ·rename_i hl
   split at e
   ·cases e
   ·rename_i hw
    exact⟨v,hb,a3h.1 fun k=>hl (.inr k),fun k=>hw (.inl k),fun k=>hw (.inr k)⟩
theorem PlanOk.zero{h:HouseR}{c:SheetR}{G:List Int}(p:PlanOk h c G):mdE h c G=0:=by
 unfold mdE stE
 rw[if_neg p.fit,if_neg (fun k=>k.elim (fun k=>k (Ce ..)) fun k=>k p.man),if_neg (fun k=>k.elim p.len p.given)]
theorem PlanOk.st{h:HouseR}{c:SheetR}{G:List Int}(p:PlanOk h c G)(i:Nat):0<=(stL h c G).getD i 0/\(stL h c G).getD i 0<=257698037760:=by
 have h60:=p.v.2.1
 by_cases hi:i<c.cues.length
 ·have:=Nc p.v.lk p.len p.given c.cues.length i hi
  unfold stL
  omega
 ·rw[a0i,a0v (by rw[E6];omega)]
  simp
theorem PlanOk.ln{h:HouseR}{c:SheetR}{G:List Int}(p:PlanOk h c G)(i:Nat):0<=(B0 h c).getD i 0/\(B0 h c).getD i 0<=2147483648:=G3 p.len i
def Ie(h:HouseR)(c:SheetR)(G:List Int)(i:Nat):Int:=(stL h c G).getD i 0+(B0 h c).getD i 0
def Ds(h:HouseR)(c:SheetR)(G:List Int)(n:Nat):List Int:=(List.range n).map (Ie h c G)
abbrev Dl(h:HouseR)(c:SheetR)(G:List Int):List Int:=Ds h c G c.cues.length
theorem Fe(h:HouseR)(c:SheetR)(G:List Int)(n:Nat):(Ds h c G n).length=n:=by simp[Ds]
theorem Mz(h:HouseR)(c:SheetR)(G:List Int)(n:Nat):Ds h c G (n+1)=Ds h c G n++[Ie h c G n]:=by simp[Ds,a6w]
theorem PlanOk.end_{h:HouseR}{c:SheetR}{G:List Int}(p:PlanOk h c G)(i:Nat):0<=Ie h c G i/\Ie h c G i<=259845521408:=by
 have:=p.st i
 have:=p.ln i
 unfold Ie
 omega
def mxL:List Int->Int
 |[]=>0
 |x::xs=>xs.foldl max x
theorem N1{B:Int}:∀(l:List Int)(a:Int),(0<=a/\a<=B)->(∀x∈l,0<=x/\x<=B)->0<=l.foldl max a/\l.foldl max a<=B
 |[],a,h,_=>h
 |x::xs,a,h,hl=>N1 xs (max a x) (by have:=hl x (by simp);omega) fun y hy=>hl y (by simp[hy])
theorem Aah{l:List Int}{B:Int}(hB:0<=B)(h:∀x∈l,0<=x/\x<=B):0<=mxL l/\mxL l<=B:=by
 cases l with
 |nil=>exact⟨a4w _,hB⟩
 |cons x xs=>exact N1 xs x (h x (by simp)) fun y hy=>h y (by simp[hy])
def endI(h:HouseR)(c:SheetR)(G:List Int):Int:=mxL (Dl h c G++[0])
theorem PlanOk.endI{h:HouseR}{c:SheetR}{G:List Int}(p:PlanOk h c G):0<=endI h c G/\endI h c G<=259845521408:=by
 refine Aah (by omega) fun x hx=>?_
 rcases a0p.1 hx with hx|hx
 ·obtain⟨i,_,rfl⟩:=a1d.1 hx
  exact p.end_ i
 ·obtain rfl:=a2s.1 hx
  omega
def D7(d:Int)(m:MoveR):List PcQ:=if(Jj d m).num=0 then[⟨0,0,0,A4 m.rise 2⟩,⟨F8 d m,Pj d m,((Ai d m:Int):Rat),A4 (-m.fall) 2⟩,⟨G6 d m,(d:Rat),0,0⟩]else[⟨0,0,0,A4 m.rise 2⟩,⟨Gd d m,Km d m,((Ai d m:Int):Rat),0⟩,⟨F8 d m,Pj d m,((Ai d m:Int):Rat),A4 (-m.fall) 2⟩,⟨G6 d m,(d:Rat),0,0⟩]
theorem A7e(d:Int)(m:MoveR):(D7 d m).map PcQ.row=M8 d m:=by unfold D7 M8;split<;>rfl
theorem Ot(d:Int)(m:MoveR):(D7 d m).length<=4:=by unfold D7;split<;>simp
theorem Vf{d:Int}{m:MoveR}(hm:Cm m)(hd:1<=d/\d<=1048576):okC (D7 d m):=by
 have K:=Ib hm hd
 have z:Fits (0:Rat):=Bx (n:=0) (by omega) (by omega)
 have t:Fits ((Ai d m:Int):Rat):=Bx (by have:=K.w;omega) (by have:=K.w;omega)
 have e:Fits (d:Rat):=Bx (by omega) (by omega)
 intro p hp
 unfold D7 at hp
 split at hp
 ·simp only[a1q,a2t,or_false]at hp
  rcases hp with rfl|rfl|rfl
  ·exact⟨z,z,z,K.half⟩
  ·exact⟨K.stop,K.top,t,K.halfF⟩
  ·exact⟨K.fin,e,z,z⟩
 ·simp only[a1q,a2t,or_false]at hp
  rcases hp with rfl|rfl|rfl|rfl
  ·exact⟨z,z,z,K.half⟩
  ·exact⟨K.start,K.rise,t,z⟩
  ·exact⟨K.stop,K.top,t,K.halfF⟩
  ·exact⟨K.fin,e,z,z⟩
/-! ### The order of a sheet -/
def mvI(q:CueR)(s:ByteArray):Int:=idx (fun m:MoveR=>m.set=s) q.moves
def mvO(q:CueR)(s:ByteArray):Option MoveR:=if mvI q s<0 then none else q.moves[(mvI q s).toNat]?
theorem Xq{q:CueR}{s:ByteArray}{m:MoveR}(h:mvO q s=some m):m∈q.moves:=by
 unfold mvO at h
 split at h
 ·cases h
 ·exact a0a h
def Ii(c:SheetR)(S L:List Int)(i k:Nat)(q r:CueR)(m:MoveR):Prop:=(mvO r m.set).isSome=true->S.getD k 0+L.getD k 0<=S.getD i 0
def Jg(c:SheetR)(S L:List Int):Prop:=∀i q,c.cues[i]?=some q->∀k r,k<i->c.cues[k]?=some r->∀m∈q.moves,Ii c S L i k q r m
noncomputable instance (c:SheetR)(S L:List Int):Decidable (Jg c S L):=Classical.propDecidable _
/-! ### Paths -/
def Af(s z:Int)(up:Prop)[Decidable up](x:PcQ):PcQ:=if up then⟨A4 s 1000+x.f,(z:Rat)+x.a,x.b,x.c⟩else⟨A4 s 1000+x.f,(z:Rat)-x.a,-x.b,-x.c⟩
def Jf(s z:Int)(m:MoveR):List PcQ:=if m.to=z then[]else(D7 (max (m.to-z) (z-m.to)) m).map (Af s z (z<m.to))
def Dt(h:HouseR)(c:SheetR)(S:List Int)(k:Nat)(n:ByteArray)(i:Nat):List PcQ:=match c.cues[i]? with
 |some q=>(match mvO q n with|some m=>Jf (S.getD i 0) ((B5 h c i).getD k 0) m|none=>[])
 |none=>[]
def Be(o:List PcQ)(y:PcQ):List PcQ:=if(o.getLastD default).f=y.f then o.dropLast++[y]else o++[y]
theorem Rb(A:List PcQ)(l y:PcQ)(h:l.f=y.f):Be (A++[l]) y=A++[y]:=by simp[Be,h]
theorem Uk(A:List PcQ)(l y:PcQ)(h:¬l.f=y.f):Be (A++[l]) y=(A++[l])++[y]:=by simp[Be,h]
theorem Aec(o:List PcQ)(y:PcQ):Be o y≠[]:=by unfold Be;split<;>simp
theorem Aat(o:List PcQ)(y:PcQ):(Be o y).length<=o.length+1:=by unfold Be;split<;>simp<;>omega
theorem Aed{o:List PcQ}{y:PcQ}(ho:okC o)(hy:y.ok):okC (Be o y):=fun p hp=>by
 unfold Be at hp
 split at hp
 ·rcases a0p.1 hp with h|h
  ·exact ho p (List.dropLast_subset _ h)
  ·obtain rfl:=a2s.1 h;exact hy
 ·rcases a0p.1 hp with h|h
  ·exact ho p h
  ·obtain rfl:=a2s.1 h;exact hy
theorem Ph:∀(l:List PcQ)(o:List PcQ),o≠[]->l.foldl Be o≠[]
 |[],_,h=>h
 |y::l,o,_=>Ph l _ (Aec o y)
theorem N9:∀(l:List PcQ)(o:List PcQ),(l.foldl Be o).length<=o.length+l.length
 |[],_=>a0n _
 |y::l,o=>by
  have:=N9 l (Be o y)
  have:=Aat o y
  rw[a2y,a0j]
  omega
theorem A2k:∀(l:List PcQ)(o:List PcQ),okC o->okC l->okC (l.foldl Be o)
 |[],_,h,_=>h
 |y::l,o,h,hl=>A2k l _ (Aed h (hl y (by simp))) fun p hp=>hl p (by simp[hp])
def Bm(h:HouseR)(c:SheetR)(S:List Int)(k:Nat)(s:SetR):Nat->List PcQ
 |0=>[⟨0,(s.high:Rat),0,0⟩]
 |i+1=>(Dt h c S k s.name i).foldl Be (Bm h c S k s i)
def Qk(h:HouseR)(c:SheetR)(S:List Int)(k:Nat)(s:SetR):Prop:=∃i,i<c.cues.length/\¬okC (Dt h c S k s.name i)
noncomputable instance (h:HouseR)(c:SheetR)(S:List Int)(k:Nat)(s:SetR):Decidable (Qk h c S k s):=Classical.propDecidable _
def Ik(h:HouseR)(c:SheetR)(S:List Int)(k:Nat)(s:SetR):List PcQ:=Bm h c S k s c.cues.length
noncomputable def Fp(h:HouseR)(c:SheetR)(S:List Int)(k:Nat)(s:SetR):Int:=if Qk h c S k s then 5 else if 200<(Ik h c S k s).length then 4 else 0
theorem Sn(h:HouseR)(c:SheetR)(S:List Int)(k:Nat)(s:SetR):∀i,Bm h c S k s i≠[]
 |0=>by simp[Bm]
 |i+1=>Ph _ _ (Sn h c S k s i)
theorem Ae2(h:HouseR)(c:SheetR)(S:List Int)(k:Nat)(n:ByteArray)(i:Nat):(Dt h c S k n i).length<=4:=by
 unfold Dt
 split
 ·split
  ·unfold Jf
   split
   ·simp
   ·rw[a0e];exact Ot _ _
  ·simp
 ·simp
theorem Uj(h:HouseR)(c:SheetR)(S:List Int)(k:Nat)(s:SetR):∀i,(Bm h c S k s i).length<=4*i+1
 |0=>by simp[Bm]
 |i+1=>by
  have:=Uj h c S k s i
  have:=N9 (Dt h c S k s.name i) (Bm h c S k s i)
  have:=Ae2 h c S k s.name i
  rw[Bm]
  omega
theorem A5x{h:HouseR}{c:SheetR}{S:List Int}{k:Nat}{s:SetR}(hs:Fits (s.high:Rat))(hb:¬Qk h c S k s):∀i,i<=c.cues.length->okC (Bm h c S k s i)
 |0,_=>fun p hp=>by
  have z:Fits (0:Rat):=Bx (n:=0) (by omega) (by omega)
  obtain rfl:=a2s.1 hp
  exact⟨z,hs,z,z⟩
 |i+1,hi=>A2k _ _ (A5x hs hb i (by omega)) (a3h.1 fun hn=>hb ⟨i,by omega,hn⟩)
theorem A3x:FnGrow Tryz.prog 297 8 1000000:=by
 refine⟨⟨_,Tryz.func297,by kernel_rfl,rfl⟩,fun m w h0 hm=>?_⟩
 have hS:HasS Tryz.prog 192 8:=inferInstance
 have hB:HasB Tryz.prog 192 64:=inferInstance
 have hZ:HasZ Tryz.prog 192 (.agg #[.int .i64 0,.int .i64 0,.int .i64 0,.int .i64 0,.int .i64 0,.int .i64 0,.int .i64 0,.int .i64 0]):=inferInstance
 obtain⟨i,hi1,hi2⟩:∃i,Tryz.prog.info? 192=some i/\i.size=8:=by
  have:=hS.out
  cases hh:Tryz.prog.info? 192 with
  |none=>rw[hh]at this;cases this
  |some i=>rw[hh]at this;exact⟨i,rfl,by simpa using this⟩
 have hi3:i.bytes=64:=by have:=hB.out;rw[hi1]at this;simpa using this
 have hi4:=hZ.out
 rw[hi1]at hi4
 have h:=Go.Proofs.Any8.slices_Grow_grow Tryz.grow i _ hi1 hi4 (by omega) none 0 0 m [] w (a0n _) (by omega) (by rw[hi3];omega) (by omega) (by simp) (fun _=>rfl) (fun a h=>by cases h)
 refine h.mono ?_
 rintro e w' ⟨rfl,rfl⟩
 have hge:=Hm w (0+m) 0 192
 refine⟨w.heap.size,0,_,_,_,0,0,rfl,⟨rfl,rfl,rfl,by simp,fun k hk=>Ap w.drew _ hk⟩,a0n _,Bz w.drew _,a0n _,?_⟩
 have hz8:∀n,(Builtin.zeroCells (Value.agg #[.int .i64 0,.int .i64 0,.int .i64 0,.int .i64 0,.int .i64 0,.int .i64 0,.int .i64 0,.int .i64 0]).cells n).size=n*8:=fun n=>by simp[Builtin.zeroCells,Value.cells]
 rw[a7d,a7d,hz8,hz8]
 show 0+grownCap w (0+m) 0 192*8<=(#[]:Array Value).size+(0+m-0)*8+(grownCap w (0+m) 0 192-(0+m))*8
 generalize grownCap w (0+m) 0 192=G at hge⊢
 simp
 omega
abbrev Ae(l:List PcQ):List AV:=(l.map PcQ.row).flatten.map .lf
theorem Ix(l:List PcQ):∀r∈l.map PcQ.row,r.length=8:=by
 intro r hr
 obtain⟨n,_,rfl⟩:=a1d.1 hr
 rfl
theorem Agq(l:List PcQ):(l.map PcQ.row).flatten.all Lf.one=true:=by
 rw[a0l]
 intro x hx
 obtain⟨r,hr,hxr⟩:=a7q.1 hx
 obtain⟨n,_,rfl⟩:=a1d.1 hr
 simp only[PcQ.row,a1q,a2t,or_false]at hxr
 rcases hxr with rfl|rfl|rfl|rfl|rfl|rfl|rfl|rfl<;>rfl
theorem Az(l:List PcQ):(Ae l).length=l.length*8:=by
 rw[a0e,Bc _ (Ix l),a0e]
theorem C3(x:PcQ)(l:List PcQ):Ae (x::l)=(x.row.map .lf)++Ae l:=by simp[Ae]
theorem Cg(l m:List PcQ):Ae (l++m)=Ae l++Ae m:=by simp[Ae]
theorem Bn(n:Nat)(l:List PcQ):(Ae l).all (AV.under n)=true:=Ac n _
theorem K0(l:List PcQ):OwnRows (Ae l) 0 l.length 8 (l.map PcQ.row):=by
 have:=OwnRows.of (l.map PcQ.row).flatten (Ix l) rfl
 rw[a0e]at this
 exact this
abbrev Jp(c:List PcQ):List Lf:=[.sl (c.map PcQ.row)]
theorem Yl{α:Type}(cs:List (List α))(i:Nat)(c:List α)(h:cs[i]?=some c):(cs.take (i+1)).flatten=(cs.take i).flatten++c:=by
 rw[a0u,h,b2v]
 simp
theorem Yk{α:Type}(cs:List (List α))(i:Nat):(cs.take i).flatten.length<=cs.flatten.length:=by
 have h:cs.flatten=(cs.take i).flatten++(cs.drop i).flatten:=by rw[<-b2v,a4i]
 rw[h,a0s]
 omega
theorem Q9(cs:List (List PcQ))(h0:0<cs.flatten.length)(hn:cs.flatten.length<=1000)(hm:cs.length<=1000):Fz 283 [.sl (cs.map Jp)] (.sl (cs.flatten.map PcQ.row)):=by
 have hle:=lmA cs Jp
 have hg:=A3x
 refine Fo Tryz.func283 ?_
 repeat' first|refine WX ?_|refine W2 ?_ ?_<;>intro hc
 refine p0c (fun i=>i<=cs.length) (fun i=>cs.length-i) (fun i=>[(11,.i i),(3,.i (cs.take i).flatten.length),(10,.i (cs.map Jp).length),(9,.sl (cs.map Jp)),(0,.sl (cs.map Jp))]) (fun i=>[]) 0 (a0k _) CV .nil ?_
 intro i hi
 by_cases hlt:(i:Int)<((cs.map Jp).length:Nat)
 ·obtain⟨c,hc⟩:∃c,cs[i]?=some c:=⟨cs[i],a0b (by omega)⟩
  have hb:(cs.map Jp)[((i:Nat):Int).toNat]?=some (Jp c):=by rw[a0q,a0d,hc];rfl
  have hfs:=Yl cs i c hc
  have hfp:=Yk cs (i+1)
  have hfl:(cs.take (i+1)).flatten.length=(cs.take i).flatten.length+c.length:=by rw[hfs,a0s]
  have hcl:=lmA c PcQ.row
  have hneg:¬((((cs.take i).flatten.length:Nat):Int)+((c.map PcQ.row).length:Nat)<0):=by omega
  repeat' first|refine WX ?_|refine W2 ?_ ?_<;>intro hc
  exact Next.go (i+1) (by omega) (by omega) (.cons (by rw[show(((i+1:Nat):Int))=(i:Int)+1 by omega];rfl) rfl (.cons (by rw[hfl,<-hcl,show((((cs.take i).flatten.length+(c.map PcQ.row).length:Nat):Int))=((cs.take i).flatten.length:Int)+((c.map PcQ.row).length:Nat) by omega];rfl) rfl CV)) .nil
 ·obtain rfl:i=cs.length:=by omega
  rw[a1l]
  repeat' first|refine W ?_|(apply p4l 0 (mm:=cs.flatten.length) hg;(iterate 7 exact rfl);omega)|refine V ?_|refine W2 ?_ ?_<;>intro hc
  refine p0c (fun i=>i<=cs.length) (fun i=>cs.length-i) (fun i=>[(27,.i i),(6,.own 0 0 (cs.take i).flatten.length 8),(26,.i (cs.map Jp).length),(25,.sl (cs.map Jp))]) (fun i=>[.live (Ae (cs.take i).flatten)]) 0 (a0k _) CV (.live rfl .nil) ?_
  intro i hi
  by_cases hlt:(i:Int)<((cs.map Jp).length:Nat)
  ·obtain⟨c,hc⟩:∃c,cs[i]?=some c:=⟨cs[i],a0b (by omega)⟩
   have hb:(cs.map Jp)[((i:Nat):Int).toNat]?=some (Jp c):=by rw[a0q,a0d,hc];rfl
   have hfs:=Yl cs i c hc
   have hfp:=Yk cs (i+1)
   have hfl:(cs.take (i+1)).flatten.length=(cs.take i).flatten.length+c.length:=by rw[hfs,a0s]
   have hcl:=lmA c PcQ.row
   repeat' first|refine WY ?_|(apply p0h;(iterate 8 exact rfl);exact Az _;exact Ix c;exact Agq c;exact Aj _ _;omega;omega)|refine V ?_|refine W2 ?_ ?_<;>intro hc
   exact Next.go (i+1) (by omega) (by omega) (.cons (by rw[show(((i+1:Nat):Int))=(i:Int)+1 by omega];rfl) rfl (.cons (by rw[hfl,<-hcl];rfl) rfl CV)) (by rw[hfs,Cg];exact .live (by rw[<-Cg];exact Bn _ _) .nil)
  ·obtain rfl:i=cs.length:=by omega
   rw[a1l]
   repeat' first|refine W ?_|(refine T.freeze 6 rfl rfl (K0 _) ?_)|refine V ?_|refine W2 ?_ ?_<;>intro hc
   exact E5 (by simp) Tryz.results283 rfl (.one (.one (.lf _)))
def Cq:List Rat->Rat->List Rat
 |[],t=>[t]
 |x::l,t=>if x<t then x::Cq l t else if x=t then x::l else t::x::l
theorem A1z(l:List Rat)(t x:Rat):x∈Cq l t↔x=t\/x∈l:=by
 induction l with
 |nil=>simp[Cq]
 |cons y l ih=>
  unfold Cq
  split
  ·rw[a1q,ih,a1q];grind
  ·split
   ·rename_i h;subst h;simp
   ·simp
theorem Acv(l:List Rat)(t:Rat)(h:l.Pairwise (· < ·)):(Cq l t).Pairwise (· < ·):=by
 induction l with
 |nil=>simp[Cq]
 |cons y l ih=>
  obtain⟨h1,h2⟩:=a6v.1 h
  unfold Cq
  split
  ·rename_i hlt
   refine a6v.2 ⟨fun z hz=>?_,ih h2⟩
   rcases(A1z l t z).1 hz with rfl|hz
   ·exact hlt
   ·exact h1 z hz
  ·split
   ·exact h
   ·refine a6v.2 ⟨fun z hz=>?_,h⟩
    rcases a1q.1 hz with rfl|hz
    ·grind
    ·have:=h1 z hz
     grind
def Ku(l:List Rat):List Rat:=l.foldl Cq []
theorem Yy(l m:List Rat)(x:Rat):x∈l.foldl Cq m↔x∈m\/x∈l:=by
 induction l generalizing m with
 |nil=>simp
 |cons y l ih=>rw[a2y,ih,A1z,a1q];grind
theorem A8u(l m:List Rat)(h:m.Pairwise (· < ·)):(l.foldl Cq m).Pairwise (· < ·):=by
 induction l generalizing m with
 |nil=>exact h
 |cons y l ih=>exact ih _ (Acv _ _ h)
theorem F5(l:List Rat)(x:Rat):x∈Ku l↔x∈l:=by unfold Ku;rw[Yy];simp
theorem Od(l:List Rat):(Ku l).Pairwise (· < ·):=A8u l [] (by simp)
theorem A0p:∀(l m:List Rat),l.Pairwise (· < ·)->m.Pairwise (· < ·)->(∀x,x∈l↔x∈m)->l=m
 |[],[],_,_,_=>rfl
 |[],y::m,_,_,h=>absurd ((h y).2 (by simp)) (by simp)
 |x::l,[],_,_,h=>absurd ((h x).1 (by simp)) (by simp)
 |x::l,y::m,hl,hm,h=>by
  obtain⟨l1,l2⟩:=a6v.1 hl
  obtain⟨m1,m2⟩:=a6v.1 hm
  have hxy:x=y:=by
   rcases a1q.1 ((h x).1 (by simp))with e|e
   ·exact e
   ·rcases a1q.1 ((h y).2 (by simp))with e2|e2
    ·exact e2.symm
    ·have:=l1 y e2
     have:=m1 x e
     grind
  subst hxy
  refine congrArg (x:: ·) (A0p l m l2 m2 fun z=>⟨fun hz=>?_,fun hz=>?_⟩)
  ·rcases a1q.1 ((h z).1 (a8y _ hz))with e|e
   ·subst e;exact absurd (l1 z hz) (by grind)
   ·exact e
  ·rcases a1q.1 ((h z).2 (a8y _ hz))with e|e
   ·subst e;exact absurd (m1 z hz) (by grind)
   ·exact e
theorem A96(l:List Rat)(hs:l.Pairwise (· <= ·)):∀(n:Nat),n<=l.length->(cN l n).Pairwise (· < ·)/\∀x,x∈cN l n↔x∈l.take n
 |0,_=>by simp[cN]
 |n+1,h=>by
  obtain⟨h1,h2⟩:=A96 l hs n (by omega)
  have hx:l[n]?=some l[n]:=a0b (by omega)
  have htk:l.take (n+1)=l.take n++[l[n]]:=by rw[a0u,hx];rfl
  by_cases hd:n≠0/\l[n-1]?=some l[n]
  ·rw[S5 hx hd.1 hd.2]
   refine⟨h1,fun x=>?_⟩
   rw[h2,htk,a0p,a2s]
   refine⟨.inl,fun hh=>hh.elim id fun e=>?_⟩
   rw[List.mem_iff_getElem?]
   exact⟨n-1,by rw[a6s,if_pos (by omega),hd.2,e]⟩
  ·rw[S0 hx fun h0 e=>hd ⟨h0,e⟩]
   refine⟨a5j.2 ⟨h1,by simp,fun y hy z hz=>?_⟩,fun x=>?_⟩
   ·rw[a2s]at hz
    subst hz
    have hy':=(h2 y).1 hy
    obtain⟨j,hj,hjy⟩:=b2w hy'
    rw[a0x]at hj
    rw[List.getElem_take]at hjy
    subst hjy
    have hpw:=a3r.1 hs
    have g1:l[j]<=l[n-1]'(by omega):=by
     by_cases e:j=n-1
     ·subst e;exact a2i
     ·exact hpw j (n-1) _ _ (by omega)
    have g2:l[n-1]'(by omega)<=l[n]:=hpw (n-1) n _ _ (by omega)
    have g3:l[n-1]'(by omega)≠l[n]:=fun e=>hd ⟨by omega,by rw[a0b (by omega),e]⟩
    grind
   ·rw[a0p,h2,htk,a0p]
theorem Ahs(L l:List Rat)(hp:l.Perm L)(hs:l.Pairwise (· <= ·)):cN l l.length=Ku L:=by
 obtain⟨h1,h2⟩:=A96 l hs l.length (a0n _)
 refine A0p _ _ h1 (Od L) fun x=>?_
 rw[h2,a1l,F5,hp.mem_iff]
theorem Nr(L l:List Rat)(hp:l.Perm L)(hs:l.Pairwise (· <= ·))(hn:L.length<=1000000):FnMut Tryz.prog 285 2 L.length (Cp l) (Ku L).length (Cp (Ku L)):=by
 have h:=A05 l (by rw[hp.length_eq];exact hn)
 rw[Ahs L l hp hs,hp.length_eq]at h
 exact h
def An(a b:List PcQ):List Rat:=Ku ((a++b).map (·.f))
def jP(op:Rat->Rat->Rat)(a b:List PcQ)(t:Rat):PcQ:=⟨t,kQ (op (atP a t).a (atP b t).a),kQ (op (atP a t).b (atP b t).b),kQ (op (atP a t).c (atP b t).c)⟩
def jE(op:Rat->Rat->Rat)(a b:List PcQ)(t:Rat)(e:Int):Int:=kE (op (atP a t).c (atP b t).c) (kE (op (atP a t).b (atP b t).b) (kE (op (atP a t).a (atP b t).a) (Eu b t (Eu a t e))))
def jEs(op:Rat->Rat->Rat)(a b:List PcQ)(l:List Rat):Int:=l.foldl (fun e t=>jE op a b t e) 0
def A0l(op:Rat->Rat->Rat)(a b:List PcQ):AV:=
 if 200<(An a b).length then .tup [.sl [],.i 4]else if jEs op a b (An a b)=0 then .tup [.sl (((An a b).map (jP op a b)).map PcQ.row),.i 0]else .tup [.sl [],.i (jEs op a b (An a b))]
theorem Ae7(l:List PcQ)(k:Nat)(hl:okC l):(A6 l k).ok:=by
 unfold A6
 rw[a0i]
 cases h:l[k]? with
 |none=>exact⟨Fits.zero,Fits.zero,Fits.zero,Fits.zero⟩
 |some x=>exact hl x (a0a h)
theorem Lq(l:List PcQ)(t:Rat)(hl:okC l)(h0:l≠[])(ht:Fits t):(atP l t).ok:=by
 have hp:∀k,(A6 l k).ok:=fun k=>Ae7 l k hl
 unfold atP
 split
 ·exact⟨ht,(hp _).a,Fits.zero,Fits.zero⟩
 ·refine⟨ht,?_,?_,(hp _).c⟩
  ·unfold atQ;split<;>first|exact(hp _).a|exact Dj _
  ·unfold atS;split<;>first|exact Fits.zero|exact Dj _
theorem Ko(a b:List PcQ)(ha:okC a)(hb:okC b):∀t∈An a b,Fits t:=fun t ht=>by
 rw[An,F5]at ht
 obtain⟨p,hp,rfl⟩:=a1d.1 ht
 rcases a0p.1 hp with h|h
 ·exact(ha p h).f
 ·exact(hb p h).f
theorem A2a(l:List Rat):OwnRows (fa l) 0 l.length 2 (l.map frR):=by
 have:=OwnRows.of (l.map frR).flatten (Sc l) rfl
 rw[a0e]at this
 exact this
theorem Zd5{A0:Prop}(a0:A0){G R:Prop}(r:R)(h:A0→Rest R→G:=by intro a0 r;apply p1m;(iterate 4 exact rfl);exact a0;(rw[Az];omega);exact r.out):G:=h a0 ⟨r⟩
end Go.Proofs.YtcaicpnepfjcmaaGreat
