/- Lemmas of the proof. -/
import Derived.Test.YtcaicpnepfjcmaaGreatPq
import Derived.Test.YtcaicpnepfjcmaaGreatNb
set_option linter.all false
set_option maxHeartbeats 64000000
namespace Go.Proofs.YtcaicpnepfjcmaaGreat
open Go Go.RowKit
def a9j:= @Rat.div_mul_cancel
def b2b:= @Rat.zero_mul
def b3f:= @Tryz.func40
theorem A6o{P:Nat->Bool}:∀k,1<=Ka P k->P (Ka P k)=true
 |0,h=>by simp[Ka]at h
 |k+1,h=>by
  rw[Ka]at h⊢
  split
  ·assumption
  ·rename_i hn
   rw[if_neg hn]at h
   exact A6o k h
theorem A3k{d:Int}{m:MoveR}(hm:Cm m)(hd:1<=d/\d<=1048576):Dm d m (Ai d m):=by
 have h:=(Rr hm hd).1
 unfold Ai at h⊢
 rw[if_neg (by omega)]at h⊢
 exact of_decide_eq_true (A6o _ h)
theorem Xu{a b:Rat}(ha:0<a)(hb:0<b):0<a/b:=by
 have h:b*(a/b)=a:=by
  have:b≠0:=by grind
  grind
 rw[<-h]at ha
 exact(a4b hb).1 ha
theorem Oi{n:Int}(h:1<=n):(0:Rat)<(n:Rat):=by
 have:=Rat.intCast_lt_intCast.2 (show(0:Int)<n by omega)
 simpa using this
theorem Ah2(w R F D:Rat)(hR:R≠0)(hF:F≠0):2*R*F*(D-w*w/(2*R)-w*w/(2*F))=2*D*R*F-w*w*(R+F):=by
 have h1:w*w/(2*R)*(2*R)=w*w:=a9j (by grind)
 have h2:w*w/(2*F)*(2*F)=w*w:=a9j (by grind)
 generalize w*w/(2*R)=u at*
 generalize w*w/(2*F)=v at*
 generalize w*w=x at*
 grind
theorem A7f{d:Int}{m:MoveR}(hm:Cm m)(hd:1<=d/\d<=1048576):Ag (D7 d m):=by
 have K:=Ib hm hd
 have hw:=K.w
 have hfw:=A3k hm hd
 unfold Dm at hfw
 obtain⟨_,_,h3,h4,h5⟩:=hm
 have rp:=Oi (n:=m.rise) (by omega)
 have fp:=Oi (n:=m.fall) (by omega)
 have wp:=Oi (n:=(Ai d m:Int)) (by omega)
 have two:((2:Int):Rat)=2:=rfl
 have hfq:=a4f.2 hfw
 simp only[a2h,a4a,two]at hfq
 have e1:Km d m=((Ai d m:Int):Rat)*((Ai d m:Int):Rat)/(2*(m.rise:Rat)):=by rw[Km,Df,a2h,a2h,two]
 have e2:Na d m=((Ai d m:Int):Rat)*((Ai d m:Int):Rat)/(2*(m.fall:Rat)):=by rw[Na,Df,a2h,a2h,two]
 have e3:Gd d m=((Ai d m:Int):Rat)/(m.rise:Rat):=Df _ _
 have e4:So d m=((Ai d m:Int):Rat)/(m.fall:Rat):=Df _ _
 have k0:Pi d m=Jj d m/((Ai d m:Int):Rat):=rfl
 have k1:F8 d m=Gd d m+Pi d m:=rfl
 have k2:G6 d m=F8 d m+So d m:=rfl
 have k4:Jj d m=(d:Rat)-Km d m-Na d m:=rfl
 have p1:0<Gd d m:=by rw[e3];exact Xu wp rp
 have p2:0<So d m:=by rw[e4];exact Xu wp fp
 have hrun:0<=Jj d m:=by
  refine a1j.1 fun hn=>?_
  have c0:0<2*(m.rise:Rat)*(m.fall:Rat):=by
   have:=(a4b (show 0<2*(m.rise:Rat) by grind) (b:=(m.fall:Rat))).2 fp
   exact this
  have:=(a2j c0 (b:=Jj d m)).2 hn
  rw[k4,e1,e2]at this
  have r0:(m.rise:Rat)≠0:=by grind
  have f0:(m.fall:Rat)≠0:=by grind
  generalize((Ai d m:Int):Rat)=w at*
  generalize(m.rise:Rat)=R at*
  generalize(m.fall:Rat)=F at*
  generalize(d:Rat)=D at*
  rw[Ah2 w R F D r0 f0]at this
  exact absurd (show(0:Rat)<=2*D*R*F-w*w*(R+F) by grind) (a2w.2 this)
 unfold D7
 split
 ·rename_i hz
  have hz':Jj d m=0:=a6f.1 hz
  rw[hz']at k0
  have k5:Pi d m=0:=by rw[k0,b0s,b2b]
  intro i hi
  match i,hi with
  |0,_=>show(0:Rat)<F8 d m;grind
  |1,_=>show F8 d m<G6 d m;grind
 ·rename_i hz
  have hz':Jj d m≠0:=fun e=>hz (a6f.2 e)
  have p3:0<Pi d m:=by rw[k0];exact Xu (a4k hrun hz'.symm) wp
  intro i hi
  match i,hi with
  |0,_=>show(0:Rat)<Gd d m;exact p1
  |1,_=>show Gd d m<F8 d m;grind
  |2,_=>show F8 d m<G6 d m;grind
/-! ### Pushing pieces -/
theorem Ac5{A:List PcQ}{l y:PcQ}(h:Ag (A++[l]))(e:l.f<y.f):Ag ((A++[l])++[y]):=fun i hi=>by
 have hlen:(A++[l]).length=A.length+1:=by simp
 rw[a0s,hlen]at hi
 simp only[a0j,a0m]at hi
 by_cases hlt:i+1<A.length+1
 ·rw[Iw (A:=A++[l]) (by rw[hlen];omega),Iw (A:=A++[l]) (by rw[hlen];exact hlt)]
  exact h i (by rw[hlen];exact hlt)
 ·obtain rfl:i=A.length:=by omega
  rw[show A.length+1=(A++[l]).length from hlen.symm,R7,Iw (A:=A++[l]) (by rw[hlen];omega),R7]
  exact e
theorem Aau{A:List PcQ}{l y:PcQ}(h:Ag (A++[l]))(e:l.f<=y.f):Ag (Be (A++[l]) y)/\∃B,Be (A++[l]) y=B++[y]:=by
 by_cases hf:l.f=y.f
 ·rw[Rb A l y hf]
  refine⟨fun i hi=>?_,A,rfl⟩
  have hlen:(A++[l]).length=A.length+1:=by simp
  have hlen2:(A++[y]).length=A.length+1:=by simp
  rw[hlen2]at hi
  by_cases hlt:i+1<A.length
  ·have:=h i (by rw[hlen];omega)
   rw[Iw (by omega),Iw hlt]at this⊢
   exact this
  ·have e1:i+1=A.length:=by omega
   have:=h i (by rw[hlen];omega)
   rw[e1,R7,Iw (by omega)]at this⊢
   rw[<-hf]
   exact this
 ·rw[Uk A l y hf]
  exact⟨Ac5 h (a4k e hf),A++[l],rfl⟩
theorem Ac6{l:PcQ}{Y:List PcQ}(h:Ag (l::Y)):Ag Y:=fun i hi=>by
 have:=h (i+1) (by simp only[a0j];omega)
 rwa[H3,H3]at this
theorem Wh:∀(Y:List PcQ)(A:List PcQ)(l:PcQ),Ag (A++[l])->(∀y Z,Y=y::Z->l.f<=y.f)->Ag Y->Ag (Y.foldl Be (A++[l]))/\∃B,Y.foldl Be (A++[l])=B++[(l::Y).getLast (by simp)]
 |[],A,l,h,_,_=>⟨h,A,rfl⟩
 |y::Y,A,l,h,hl,hy=>by
  obtain⟨h1,B,hB⟩:=Aau h (hl y Y rfl)
  rw[a2y]
  rw[hB]at h1⊢
  have:=Wh Y B y h1 (fun z Z e=>by subst e;exact a1e (hy 0 (by simp only[a0j];omega))) (Ac6 hy)
  rwa[List.getLast_cons (by simp)]
theorem A88{l:List PcQ}(h:Ag l)(s z:Int)(up:Prop)[Decidable up]:Ag (l.map (Af s z up)):=fun i hi=>by
 rw[a0e]at hi
 have at_:∀j,j<l.length->(A6 (l.map (Af s z up)) j).f=A4 s 1000+(A6 l j).f:=fun j hj=>by
  have hx:l[j]?=some l[j]:=a0b hj
  rw[Bs hx,Bs (show(l.map (Af s z up))[j]?=some (Af s z up l[j]) by rw[a0d,hx];rfl)]
  unfold Af
  split<;>rfl
 rw[at_ i (by omega),at_ (i+1) hi]
 have:=h i hi
 grind
theorem Aip(q:Rat):q<=(upI q:Rat):=by
 have hd:=Xg q
 have hp:(0:Rat)<(q.den:Rat):=by
  have:=Oi (n:=(q.den:Int)) (by have:=q.den_pos;omega)
  exact this
 have h1:q.num<=upI q*q.den:=by
  unfold upI
  have:=Int.ediv_mul_le (-q.num) (show(q.den:Int)≠0 by have:=q.den_pos;omega)
  rw[a4n]
  omega
 have h2:=a4f.2 h1
 rw[a2h]at h2
 refine a1j.1 fun hn=>?_
 have h5:=(a4b hp (b:=q-(upI q:Rat))).2 (by grind)
 have h3:((q.den:Int):Rat)=(q.den:Rat):=rfl
 rw[h3]at h2 hd
 clear h1 hp h3
 generalize(q.den:Rat)=D at*
 generalize(upI q:Rat)=U at*
 generalize(q.num:Rat)=M at*
 have h4:D*(q-U)=D*q-U*D:=by grind
 rw[h4,hd]at h5
 exact absurd h2 (a2w.2 (by grind))
theorem Aic{n d:Int}(hd:d≠0):(A4 n d).num=0↔n=0:=by
 rw[a6f,Df]
 have hd':=Kw hd
 constructor
 ·intro h
  have h2:(n:Rat)/(d:Rat)*(d:Rat)=n:=a9j hd'
  rw[h,b2b]at h2
  exact Rat.intCast_inj.1 (h2.symm.trans (show(0:Rat)=((0:Int):Rat)from rfl))
 ·rintro rfl
  rw[show(((0:Int)):Rat)=0 from rfl,b0s,b2b]
structure CurveRf(d:Int)(m:MoveR)(w k:Int):Prop where
 run:(Jj d m).num=0↔¬0<k
 stop:F8 d m=A4 (2*m.fall*w*w+k) (2*m.rise*m.fall*w)
 top:Pj d m=A4 (2*m.fall*d-w*w) (2*m.fall)
 k0:0<=k
theorem Ad2{d:Int}{m:MoveR}(hm:Cm m)(hd:1<=d/\d<=1048576){w:Int}(hw:w=(Ai d m:Int)):CurveRf d m w (2*m.rise*m.fall*d-w*w*(m.rise+m.fall)):=by
 have hs:=(Rr hm hd).1
 have hft:=(Zl d (Ai d m) m).2 (A3k hm hd)
 obtain⟨_,_,h3,h4,h5⟩:=hm
 have q1:Jj d m=(d:Rat)-A4 (Ai d m*Ai d m) (2*m.rise)-A4 (Ai d m*Ai d m) (2*m.fall):=rfl
 have q2:F8 d m=A4 (Ai d m) m.rise+((d:Rat)-A4 (Ai d m*Ai d m) (2*m.rise)-A4 (Ai d m*Ai d m) (2*m.fall))/((Ai d m:Int):Rat):=rfl
 have q3:Pj d m=(d:Rat)-A4 (Ai d m*Ai d m) (2*m.fall):=rfl
 rw[<-hw]at q1 q2 q3 hft
 have hw':1<=w:=by omega
 have r0:=Kw (n:=m.rise) (by omega)
 have f0:=Kw (n:=m.fall) (by omega)
 have w0:=Kw (n:=w) (by omega)
 have rf1:=L6 (a:=2*m.rise) (b:=m.fall) (by omega) (by omega)
 generalize hR:m.rise=R at*
 generalize hF:m.fall=F at*
 have e2:(d:Rat)-A4 (w*w) (2*R)-A4 (w*w) (2*F)=A4 (2*R*F*d-w*w*(R+F)) (2*R*F):=by
  simp only[Df,a2h,a4x,a4a]
  rw[show(((2:Int)):Rat)=2 from rfl]
  grind
 have e4:A4 w R+((d:Rat)-A4 (w*w) (2*R)-A4 (w*w) (2*F))/(w:Rat)=A4 (2*F*w*w+(2*R*F*d-w*w*(R+F))) (2*R*F*w):=by
  simp only[Df,a2h,a4x,a4a]
  rw[show(((2:Int)):Rat)=2 from rfl]
  grind
 have e6:(d:Rat)-A4 (w*w) (2*F)=A4 (2*F*d-w*w) (2*F):=by
  simp only[Df,a2h,a4x,a4a]
  rw[show(((2:Int)):Rat)=2 from rfl]
  grind
 have hk:0<=2*R*F*d-w*w*(R+F):=by omega
 subst hR hF
 refine⟨?_,q2.trans e4,q3.trans e6,hk⟩
 rw[q1,e2,Aic (by omega)]
 generalize 2*m.rise*m.fall*d-w*w*(m.rise+m.fall)=k at*
 omega
/-! ### Which move a set makes -/
theorem Ai5{q:CueR}{n:ByteArray}{k:Nat}{m:MoveR}(hk:q.moves[k]?=some m)(hno:∀x∈q.moves.take k,¬x.set=n)(h:m.set=n):mvO q n=some m:=by
 have e:mvI q n=(k:Int):=Fk hk hno h
 unfold mvO
 rw[e,if_neg (by omega),a0q];exact hk
theorem Ai6{q:CueR}{n:ByteArray}(hno:∀x∈q.moves,¬x.set=n):mvO q n=none:=by
 have e:mvI q n= -1:=Em hno
 unfold mvO
 rw[e,if_pos (by decide)]
theorem Zf(q:CueR)(n:ByteArray)(hl:q.moves.length<=9223372036854775807):Fz 198 [A0 q.row,.s n] (mvA (mvO q n)):=by
 have hle:=lmA q.moves MoveR.row
 refine Fo Tryz.func198 ?_
 repeat' first|refine WX ?_|refine W2 ?_ ?_<;>intro hc
 refine p0c (fun k=>k<=q.moves.length/\∀x∈q.moves.take k,¬x.set=n) (fun k=>q.moves.length-k) (fun k=>[(6,.i k),(4,.ptr 1 0),(2,.ptr 0 0),(1,.s n)]) (fun _=>[.live (q.row.map .lf),.live (zM.map .lf)]) 0 ⟨a0k _,by simp⟩ CW CH ?_
 rintro k ⟨hk,hno⟩
 by_cases hlt:k<q.moves.length
 ·have h1:(k:Int)<((q.moves.map MoveR.row).length:Nat):=by omega
  obtain⟨x,hx⟩:=A2 hlt
  have hb:=A3 (R:=MoveR.row) hx
  have hsn:=Ad hx
  by_cases e:x.set=n
  ·rw[Ai5 hx hno e]
   repeat' first|refine WY ?_|refine Da ?_|refine V ?_|refine W2 ?_ ?_<;>intro hc
   all_goals exact D3 rfl rfl rfl rfl rfl rfl rfl
  ·repeat' first|refine WY ?_|refine Da ?_|refine V ?_|refine W2 ?_ ?_<;>intro hc
   all_goals exact Next.go (k+1) ⟨by omega,by rw[hsn];intro y hy;rcases a0p.1 hy with hy|hy;exact hno y hy;obtain rfl:y=x:=(by simpa using hy);exact e⟩ (by omega) (by rw[show(((k+1:Nat):Int))=(k:Int)+1 by omega];exact CW) CH
 ·have h1:¬(k:Int)<((q.moves.map MoveR.row).length:Nat):=by omega
  rw[Ai6 (q:=q) (n:=n) (by rw[a0g (by omega)]at hno;exact hno)]
  repeat' first|refine WX ?_|refine W2 ?_ ?_<;>intro hc
  all_goals exact D3 rfl rfl rfl rfl rfl rfl rfl
/-! ### The curve -/
theorem Ab8(d:Int)(m:MoveR)(hm:Cm m)(hd:1<=d/\d<=1048576):Fz 199 [.i d,A0 m.row] (.sl ((D7 d m).map PcQ.row)):=by
 have K:=Ib hm hd
 have ct:=A62 d m hm hd
 have cT:=A2n d m hm (by omega)
 rw[show I7 d m=G6 d m from if_neg (by omega)]at cT
 have k1:=K.w
 obtain⟨w,hw⟩:∃w:Int,w=(Ai d m:Int):=⟨_,rfl⟩
 have rf:=Ad2 hm hd hw
 have hst:=K.stop
 have htp:=K.top
 have hsr:Gd d m=A4 w m.rise:=by rw[hw]
 have hrs:Km d m=A4 (w*w) (2*m.rise):=by rw[hw]
 have g1:=K.start
 have g2:=K.rise
 have g3:=K.half
 have g4:=K.halfF
 rw[rf.stop]at hst
 rw[rf.top]at htp
 rw[hsr]at g1
 rw[hrs]at g2
 rw[<-hw]at ct
 have rk:=rf.k0
 unfold D7
 rw[rf.stop,rf.top,hsr,hrs,<-hw]
 have hrun:=rf.run
 clear rf hsr hrs K
 obtain⟨_,_,h3,h4,h5⟩:=hm
 have hw':1<=w/\w<=8192:=by omega
 have rf:=E3 (a:=2*m.rise) (b:=m.fall) (A:=32768) (B:=16384) (by omega) (by omega)
 have rf1:=L6 (a:=2*m.rise) (b:=m.fall) (by omega) (by omega)
 have rfd:=E3 (a:=2*m.rise*m.fall) (b:=d) (A:=536870912) (B:=1048576) (by omega) (by omega)
 have ww:=E3 (a:=w) (b:=w) (A:=8192) (B:=8192) (by omega) (by omega)
 have ww1:=L6 (a:=w) (b:=w) (by omega) (by omega)
 have wr:=E3 (a:=w*w) (b:=m.rise+m.fall) (A:=67108864) (B:=32768) (by omega) (by omega)
 have rfw:=E3 (a:=2*m.rise*m.fall) (b:=w) (A:=536870912) (B:=8192) (by omega) (by omega)
 have rfw1:=L6 (a:=2*m.rise*m.fall) (b:=w) (by omega) (by omega)
 have fw:=E3 (a:=2*m.fall) (b:=w) (A:=32768) (B:=8192) (by omega) (by omega)
 have fw1:=L6 (a:=2*m.fall) (b:=w) (by omega) (by omega)
 have fww:=E3 (a:=2*m.fall*w) (b:=w) (A:=268435456) (B:=8192) (by omega) (by omega)
 have fd:=E3 (a:=2*m.fall) (b:=d) (A:=32768) (B:=1048576) (by omega) (by omega)
 have c1:=Il m.rise 2 (by omega) (by omega) (by omega) (by omega) (by omega) g3
 have c2:=Il w m.rise (by omega) (by omega) (by omega) (by omega) (by omega) g1
 have c3:=Il (2*m.fall*w*w+(2*m.rise*m.fall*d-w*w*(m.rise+m.fall))) (2*m.rise*m.fall*w) (by omega) (by omega) (by omega) (by omega) (by omega) hst
 have c4:=Il (w*w) (2*m.rise) (by omega) (by omega) (by omega) (by omega) (by omega) g2
 have c5:=Il (2*m.fall*d-w*w) (2*m.fall) (by omega) (by omega) (by omega) (by omega) (by omega) htp
 have en: -m.fall=0-m.fall:=by omega
 rw[en]at g4⊢
 have c6:=Il (0-m.fall) 2 (by omega) (by omega) (by omega) (by omega) (by omega) g4
 have o0:=Co 0
 have od:=Co d
 have ow:=Co w
 have hd0:¬d=0:=by omega
 generalize A4 (2*m.fall*w*w+(2*m.rise*m.fall*d-w*w*(m.rise+m.fall))) (2*m.rise*m.fall*w)=x3 at*
 generalize A4 (2*m.fall*d-w*w) (2*m.fall)=x5 at*
 by_cases hk:0<2*m.rise*m.fall*d-w*w*(m.rise+m.fall)
 ·rw[if_neg (fun e=>hrun.1 e hk)]
  refine Fo Tryz.func199 ?_
  repeat' first|refine WY ?_|refine Dv 10 ?_|refine Dw 10 ?_|refine Dv 7 ?_|refine Dw 7 ?_|refine Dv 13 ?_|refine Dw 13 ?_|refine Dv 22 ?_|refine Dw 22 ?_|(apply p0x (d:=42);(iterate 6 exact rfl))|refine Zb0 ?_|refine Zdu ?_|refine V ?_|refine W2 ?_ ?_<;>intro hc
  all_goals exact⟨.inr rfl,[_],.cons (.tmp rfl) .nil,.one (.one (.own (rows:=List.map PcQ.row _) rfl (OwnRows.of (List.map PcQ.row _).flatten (Ix _) rfl)))⟩
 ·rw[if_pos (hrun.2 hk)]
  refine Fo Tryz.func199 ?_
  repeat' first|refine WY ?_|refine Dv 10 ?_|refine Dw 10 ?_|refine Dv 7 ?_|refine Dw 7 ?_|refine Dv 13 ?_|refine Dw 13 ?_|refine Dv 22 ?_|refine Dw 22 ?_|(apply p0x (d:=42);(iterate 6 exact rfl))|refine Zb0 ?_|refine Zdu ?_|refine V ?_|refine W2 ?_ ?_<;>intro hc
  all_goals exact⟨.inr rfl,[_],.cons (.tmp rfl) .nil,.one (.one (.own (rows:=List.map PcQ.row _) rfl (OwnRows.of (List.map PcQ.row _).flatten (Ix _) rfl)))⟩
/-! ### The lengths in milliseconds always fit -/
theorem Ach(n d:Int):(1000:Rat)*A4 n d=A4 (1000*n) d:=by
 unfold A4
 rw[show(1000:Rat)=Rat.divInt 1000 1 from rfl,a7n,b2u]
theorem Acg{d:Int}{m:MoveR}(hm:Cm m)(hd:0<=d/\d<=1048576):Fits (1000*I7 d m):=by
 unfold I7
 by_cases h:d=0
 ·rw[if_pos h,Rat.mul_zero];exact Bx (n:=0) (by omega) (by omega)
 ·have ok:=Ib hm (d:=d) (by omega)
  rw[if_neg h,ok.time,Ach]
  have hw:1<=(Ai d m:Int)/\(Ai d m:Int)<=8192:=by have:=ok.w;omega
  obtain⟨_,_,h3,h4,h5⟩:=hm
  generalize(Ai d m:Int)=w at*
  generalize m.rise=R at*
  generalize m.fall=F at*
  have rf:=E3 (a:=2*R) (b:=F) (A:=32768) (B:=16384) (by omega) (by omega)
  have rf1:=L6 (a:=2*R) (b:=F) (by omega) (by omega)
  have rfd:=E3 (a:=2*R*F) (b:=d) (A:=536870912) (B:=1048576) (by omega) (by omega)
  have ww:=E3 (a:=w) (b:=w) (A:=8192) (B:=8192) (by omega) (by omega)
  have wr:=E3 (a:=w*w) (b:=R+F) (A:=67108864) (B:=32768) (by omega) (by omega)
  have rfw:=E3 (a:=2*R*F) (b:=w) (A:=536870912) (B:=8192) (by omega) (by omega)
  have rfw1:=L6 (a:=2*R*F) (b:=w) (by omega) (by omega)
  exact Bu (by omega) (by omega) (by omega) (by omega)
theorem Aaj{h:HouseR}{c:SheetR}(v:validP h c):¬Tz h c:=by
 rintro⟨k,hk,hn⟩
 obtain⟨q,hq⟩:=A2 hk
 have g:=F6 v hq
 apply hn
 unfold msQ
 rw[Si hq]
 unfold C9
 rcases Xn h (B5 h c k) q.moves 0 with e|⟨m,hm,e⟩
 ·rw[e,Rat.mul_zero];exact Bx (n:=0) (by omega) (by omega)
 ·rw[e];exact Acg (g.move hm).1 (Kf g hm)
theorem A7u(p q:Rat)(hp:Fits p)(hq:Fits q)(hf:Fits (p*q)):Fz 159 [A0 (frR p),A0 (frR q)] (frE (p*q) 0):=Fy hf▸Kv p q hp hq
theorem Aei(q:Rat)(hq:Fits q):Fz 160 [A0 (frR q)] (.i (upI q)):=Agt q hq
theorem Tn(h:HouseR)(c:SheetR)(hf:h.fits)(hc:c.fits)(v:validP h c):Fz 76 [A0 h.row,A0 c.row] (.sl ((B0 h c).map A1)):=by
 have ct:=Zd h c hf hc v
 have h60:c.cues.length<=60:=by have:=v.2.1;omega
 have hs60:h.sets.length<=60:=v.1.2.2.2.1
 have hle:=lmA c.cues CueR.row
 have hlt0:(trL h c).length=c.cues.length+1:=by unfold trL Cz;rw[a0e,a0e,a3o]
 refine Fo Tryz.func76 ?_
 repeat' first|refine WX ?_|refine W2 ?_ ?_<;>intro hc
 refine T.kill 2 ?_
 refine p0c (fun k=>k<=c.cues.length) (fun k=>c.cues.length-k) (fun k=>[(7,.i k),(2,.ptr 0 0),(3,.ptr 1 0),(5,.sl (trL h c)),(6,rT 2 1 k)]) (fun k=>[.live (h.row.map .lf),.live (c.row.map .lf),rB (A7 (E0 h c k)) k]) 0 (a0k _) CW CH ?_
 intro k hk
 by_cases hlt:k<c.cues.length
 ·have h1:(k:Int)<((c.cues.map CueR.row).length:Nat):=by omega
  obtain⟨q,hq⟩:=A2 hlt
  have hb:=A3 (R:=CueR.row) hq
  have hbt:=Wz (h:=h) hk
  have g:=F6 v hq
  have g0:F3 h (B5 h c k) q=0:=Ua ⟨g.house,g.right⟩ g.len g.trims
  have hqm:=hc.2.2 q (a0a hq)
  have cl:=A7x h (B5 h c k) q hf (by omega) g0
  have hfl:Fits (C9 h (B5 h c k) q.moves):=Ox g fun m hm=>hm
  have hms:C9 h (B5 h c k) q.moves*1000=msQ h c k:=by unfold msQ;rw[Si hq,Rat.mul_comm]
  have hff:Fits (msQ h c k):=a3h.1 fun hn=>Aaj v ⟨k,hlt,hn⟩
  have co:=Co 1000
  have cm:=A7u (C9 h (B5 h c k) q.moves) 1000 hfl (Bx (n:=1000) (by omega) (by omega)) (by rw[hms];exact hff)
  change Fn0 _ _ [_,A0 [.i 1000,.i 1]] _ at cm
  rw[hms]at cm
  have ce:=Aei _ hff
  have hsn:A7 (E0 h c (k+1))=A7 (E0 h c k)++([A1 (upI (msQ h c k))].flatten).map AV.lf:=by rw[Vw];simp[A7];rfl
  generalize C9 h (B5 h c k) q.moves=x at*
  generalize msQ h c k=y at*
  generalize upI y=z at*
  rcases a3e k with h0|hpos
  ·subst h0
   repeat' first|refine WY ?_|refine Dv 13 ?_|refine Dw 13 ?_|refine Dv 9 ?_|refine Dw 9 ?_|(refine p3h (id:=7) A8 ?_)|refine Zbc ?_|(refine p0v (id:=7) A8 ?_)|refine Zbc ?_|refine Zd6 ?_|refine Zd4 ?_|refine Zbh ?_|refine Zbu ?_|(apply p3n (i:=0) (j:=1) (k:=6);decide+kernel;(iterate 3 exact rfl))|(apply p0a (i:=0) (j:=1);decide+kernel;exact rfl;exact rfl)|(apply p0a (i:=1) (j:=6);decide+kernel;exact rfl;exact rfl)|(apply p0a (i:=0) (j:=6);decide+kernel;exact rfl;exact rfl)|(apply p0a (i:=2) (j:=6);decide+kernel;exact rfl;exact rfl)|(apply Ords.one (i:=0);decide+kernel;exact rfl)|(apply Ords.one (i:=1);decide+kernel;exact rfl)|(apply Ords.one (i:=2);decide+kernel;exact rfl)|(apply Ords.one (i:=6);decide+kernel;exact rfl)|(apply Ords.one (i:=7);decide+kernel;exact rfl)|refine Zb0 ?_|refine Zbk ?_|refine V ?_|refine W2 ?_ ?_<;>intro hc
   all_goals exact Next.go 1 (by omega) (by omega) CW (by
    show CovH _ _ [_,_,.live (A7 (E0 h c (0+1)))]
    rw[hsn]
    exact .live rfl CH)
  ·rw[Gf hpos,Ge hpos]
   have hcl:(A7 (E0 h c k)).length=k*1:=by rw[C8,Ce,a4g]
   repeat' first|refine WY ?_|refine Dv 13 ?_|refine Dw 13 ?_|refine Dv 9 ?_|refine Dw 9 ?_|(refine p3h (id:=7) A8 ?_)|refine Zbc ?_|(refine p0v (id:=7) A8 ?_)|refine Zbc ?_|refine Zd6 ?_|refine Zd4 ?_|refine Zbh ?_|refine Zbu ?_|(apply p3n (i:=0) (j:=1) (k:=6);decide+kernel;(iterate 3 exact rfl))|(apply p0a (i:=0) (j:=1);decide+kernel;exact rfl;exact rfl)|(apply p0a (i:=1) (j:=6);decide+kernel;exact rfl;exact rfl)|(apply p0a (i:=0) (j:=6);decide+kernel;exact rfl;exact rfl)|(apply p0a (i:=2) (j:=6);decide+kernel;exact rfl;exact rfl)|(apply Ords.one (i:=0);decide+kernel;exact rfl)|(apply Ords.one (i:=1);decide+kernel;exact rfl)|(apply Ords.one (i:=2);decide+kernel;exact rfl)|(apply Ords.one (i:=6);decide+kernel;exact rfl)|(apply Ords.one (i:=7);decide+kernel;exact rfl)|refine Zb0 ?_|refine Zb2 hcl ?_|refine V ?_|refine W2 ?_ ?_<;>intro hc
   all_goals exact Next.go (k+1) (by omega) (by omega) CW (by
    show CovH _ _ [_,_,.live (A7 (E0 h c (k+1)))]
    rw[hsn]
    exact .live rfl (.live rfl (.live (by rw[<-a1f];exact Ac _ _) .nil)))
 ·have h1:¬(k:Int)<((c.cues.map CueR.row).length:Nat):=by omega
  obtain rfl:k=c.cues.length:=by omega
  refine p2d 6 2 (rows:=(B0 h c).map A1) (Cd _) (by rw[a0e,Ce]) rfl rfl ?_
  generalize B0 h c=L at*
  repeat' first|refine WX ?_|refine W2 ?_ ?_<;>intro hc
  exact E5 (by simp) Tryz.results76 rfl (.one (.one (.lf _)))
/-! ### One contract for all sheets -/
theorem Afm{h:HouseR}{c:SheetR}(v:validP h c)(G:List Int):alE h c G=stE c.cues (B0 h c) G:=by
 unfold alE mdE
 rw[if_pos v,if_neg (Aaj v)]
theorem Xv(h:HouseR)(c:SheetR)(hf:h.fits)(hc:c.fits)(G:List Int)(hG:G.length<=4611686018427387904)(e0:¬alE h c G=0):Fz 40 [A0 h.row,A0 c.row,.sl (G.map A1)] (.tup [.sl [],.sl [],.i (alE h c G)]):=by
 have cv:=Ze h c hf hc
 by_cases v:validP h c
 ·rw[decide_eq_true v]at cv
  have h60:c.cues.length<=60:=by have:=v.2.1;omega
  have cl:=Tn h c hf hc v
  have cs:=Wl c v.lk h60 (B0 h c) G (by rw[Ce];omega) hG
  rw[Afm v]at e0⊢
  rw[show srL c.cues (B0 h c) G=[]from if_neg e0]at cs
  generalize stE c.cues (B0 h c) G=e at*
  generalize B0 h c=L at*
  refine Fo b3f ?_
  repeat' first|refine WY ?_|(refine p0p 6 rfl (p0p 7 rfl ?_);apply T.ret;change Ao _ _ _ _ _)|refine V ?_|refine W2 ?_ ?_<;>intro hc
  all_goals exact⟨.inr rfl,[.sl [],.sl [],.i e],.cons (.tmp rfl) (.cons (.tmp rfl) (.cons (.tmp rfl) .nil)),.tup (.cons (.one (.lf _)) (.cons (.one (.lf _)) (.cons (.one (.lf _)) .nil)))⟩
 ·rw[decide_eq_false v]at cv
  rw[show alE h c G=1 from if_neg v]
  refine Fo b3f ?_
  repeat' first|refine WY ?_|(refine p0p 6 rfl (p0p 7 rfl ?_);apply T.ret;change Ao _ _ _ _ _)|refine V ?_|refine W2 ?_ ?_<;>intro hc
  all_goals exact⟨.inr rfl,[.sl [],.sl [],.i 1],.cons (.tmp rfl) (.cons (.tmp rfl) (.cons (.tmp rfl) .nil)),.tup (.cons (.one (.lf _)) (.cons (.one (.lf _)) (.cons (.one (.lf _)) .nil)))⟩
theorem Wn(h:HouseR)(c:SheetR)(hf:h.fits)(hc:c.fits)(G:List Int)(hG:G.length<=4611686018427387904)(e0:alE h c G=0):Fz 40 [A0 h.row,A0 c.row,.sl (G.map A1)] (.tup [.sl ((stL h c G).map A1),.sl ((B0 h c).map A1),.i 0]):=by
 have cv:=Ze h c hf hc
 have v:=(Hb e0).1.v
 rw[decide_eq_true v]at cv
 have h60:c.cues.length<=60:=by have:=v.2.1;omega
 have cl:=Tn h c hf hc v
 have cs:=Wl c v.lk h60 (B0 h c) G (by rw[Ce];omega) hG
 rw[Afm v]at e0
 rw[show srL c.cues (B0 h c) G=stL h c G from if_pos e0,e0]at cs
 generalize stL h c G=Z at*
 generalize B0 h c=L at*
 refine Fo b3f ?_
 repeat' first|refine WX ?_|refine W2 ?_ ?_<;>intro hc
 all_goals exact⟨.inr rfl,[.sl (Z.map A1),.sl (L.map A1),.i 0],.cons (.tmp rfl) (.cons (.tmp rfl) (.cons (.tmp rfl) .nil)),.tup (.cons (.one (.lf _)) (.cons (.one (.lf _)) (.cons (.one (.lf _)) .nil)))⟩
theorem A4c(c:SheetR)(sS lL:List Int)(hS:sS.length=c.cues.length)(hL:lL.length=c.cues.length)(h60:c.cues.length<=60)(hm:∀q∈c.cues,q.moves.length<=140737488355328)(bS:∀i,0<=sS.getD i 0/\sS.getD i 0<=257698037760)(bL:∀i,0<=lL.getD i 0/\lL.getD i 0<=2147483648):
  Fz 117 [A0 c.row,.sl (sS.map A1),.sl (lL.map A1)] (.b (decide (Jg c sS lL))):=by
 have hle:=lmA c.cues CueR.row
 have hls:=lmA sS A1
 refine Fo Tryz.func117 ?_
 repeat' first|refine WX ?_|refine W2 ?_ ?_<;>intro hc
 refine p0c (fun i=>i<=c.cues.length/\∀i',i'<i->∀q,c.cues[i']?=some q->∀k r,k<i'->c.cues[k]?=some r->∀m∈q.moves,Ii c sS lL i' k q r m) (fun i=>c.cues.length-i) (fun i=>[(7,.i i),(3,.ptr 0 0),(1,.sl (sS.map A1)),(2,.sl (lL.map A1))]) (fun _=>[.live (c.row.map .lf)]) 0 ⟨a0k _,by intro j hj;omega⟩ CW CH ?_
 rintro i ⟨hi,hall⟩
 by_cases hlt:i<c.cues.length
 ·have h1:(i:Int)<((sS.map A1).length:Nat):=by omega
  obtain⟨q,hq⟩:=A2 hlt
  have hb:=A3 (R:=CueR.row) hq
  obtain⟨x,hx⟩:=A2 (l:=sS) (k:=i) (by omega)
  have hbx:=A3 (R:=A1) hx
  have hqm:=hm q (a0a hq)
  have hle3:=lmA q.moves MoveR.row
  repeat' first|refine WX ?_|refine W2 ?_ ?_<;>intro hc
  refine p0c (fun k=>k<=i/\∀k',k'<k->∀r,c.cues[k']?=some r->∀m∈q.moves,Ii c sS lL i k' q r m) (fun k=>i-k) (fun k=>[(8,.i k),(7,.i i),(3,.ptr 0 0),(1,.sl (sS.map A1)),(2,.sl (lL.map A1))]) (fun _=>[.live (c.row.map .lf)]) 0 ⟨a0k _,by intro j hj;omega⟩ CW CH ?_
  rintro k ⟨hk,hin⟩
  by_cases hlk:k<i
  ·have h2:(k:Int)<(i:Nat):=by omega
   obtain⟨r,hr⟩:=A2 (l:=c.cues) (k:=k) (by omega)
   have hbr:=A3 (R:=CueR.row) hr
   obtain⟨y,hy⟩:=A2 (l:=sS) (k:=k) (by omega)
   have hby:=A3 (R:=A1) hy
   obtain⟨z,hz⟩:=A2 (l:=lL) (k:=k) (by omega)
   have hbz:=A3 (R:=A1) hz
   have by_:=bS k
   have bz:=bL k
   rw[a0i,hy]at by_
   rw[a0i,hz]at bz
   simp only[a1a]at by_ bz
   have hrm:=hm r (a0a hr)
   have hQ:∀m,Ii c sS lL i k q r m↔((mvO r m.set).isSome=true->y+z<=x):=fun m=>by
    unfold Ii
    rw[a0i,a0i,a0i,hx,hy,hz]
    rfl
   repeat' first|refine WX ?_|refine W2 ?_ ?_<;>intro hc
   refine p0c (fun j=>j<=q.moves.length/\∀m∈q.moves.take j,Ii c sS lL i k q r m) (fun j=>q.moves.length-j) (fun j=>[(9,.i j),(8,.i k),(7,.i i),(3,.ptr 0 0),(1,.sl (sS.map A1)),(2,.sl (lL.map A1))]) (fun _=>[.live (c.row.map .lf)]) 0 ⟨a0k _,by simp⟩ CW CH ?_
   rintro j ⟨hj,hjn⟩
   by_cases hlj:j<q.moves.length
   ·have h3:(j:Int)<((q.moves.map MoveR.row).length:Nat):=by omega
    obtain⟨m,hmj⟩:=A2 hlj
    have hbm:=A3 (R:=MoveR.row) hmj
    have cm:=Zf r m.set (by omega)
    by_cases ho:Ii c sS lL i k q r m
    ·have hnx:∀m'∈q.moves.take (j+1),Ii c sS lL i k q r m':=fun m' hm'=>by
      rw[a0u,hmj]at hm'
      rcases a0p.1 hm' with hm'|hm'
      ·exact hjn m' hm'
      ·obtain rfl:m'=m:=by simpa using hm'
       exact ho
     have ho2:=(hQ m).1 ho
     cases e:mvO r m.set with
     |none=>
      rw[e]at cm
      change Fn0 _ _ _ (.tup [A0 zM,.b false])at cm
      repeat' first|refine WY ?_|refine Dv 22 ?_|refine Dw 22 ?_|refine Dv 17 ?_|refine Dw 17 ?_|refine Da ?_|refine V ?_|refine W2 ?_ ?_<;>intro hc
      all_goals(first|(change Next _ _ _ _ _ _)|(trace_state;fail))
      all_goals exact Next.go (j+1) ⟨by omega,hnx⟩ (by omega) (by rw[show(((j+1:Nat):Int))=(j:Int)+1 by omega];exact CW) CH
     |some m'=>
      rw[e]at cm ho2
      change Fn0 _ _ _ (.tup [A0 m'.row,.b true])at cm
      have hn:¬x<y+z:=by have:=ho2 rfl;omega
      repeat' first|refine WY ?_|refine Dv 22 ?_|refine Dw 22 ?_|refine Dv 17 ?_|refine Dw 17 ?_|refine Da ?_|refine V ?_|refine W2 ?_ ?_<;>intro hc
      all_goals(first|(change Next _ _ _ _ _ _)|(trace_state;fail))
      all_goals exact Next.go (j+1) ⟨by omega,hnx⟩ (by omega) (by rw[show(((j+1:Nat):Int))=(j:Int)+1 by omega];exact CW) CH
    ·have hno:¬Jg c sS lL:=fun h=>ho (h i q hq k r hlk hr m (a0a hmj))
     rw[decide_eq_false hno]
     rw[hQ]at ho
     cases e:mvO r m.set with
     |none=>
      rw[e]at ho
      exact absurd (fun h=>by cases h) ho
     |some m'=>
      rw[e]at cm
      change Fn0 _ _ _ (.tup [A0 m'.row,.b true])at cm
      have hn:x<y+z:=by
       by_cases hh:x<y+z
       ·exact hh
       ·exact absurd (fun _=>by omega) ho
      repeat' first|refine WY ?_|refine Dv 22 ?_|refine Dw 22 ?_|refine Dv 17 ?_|refine Dw 17 ?_|refine Da ?_|refine V ?_|refine W2 ?_ ?_<;>intro hc
      all_goals exact Dd rfl rfl rfl
   ·have h3:¬(j:Int)<((q.moves.map MoveR.row).length:Nat):=by omega
    rw[a0g (by omega)]at hjn
    repeat' first|refine WX ?_|refine W2 ?_ ?_<;>intro hc
    all_goals(first|(change Next _ _ _ _ _ _)|(trace_state;fail))
    all_goals exact Next.go (k+1) ⟨by omega,fun k' hk' r' hr' m hm'=>by
     by_cases ek:k'=k
     ·subst ek
      rw[hr]at hr'
      injection hr' with hr'
      subst hr'
      exact hjn m hm'
     ·exact hin k' (by omega) r' hr' m hm'⟩ (by omega) (by rw[show(((k+1:Nat):Int))=(k:Int)+1 by omega];exact CW) CH
  ·have h2:¬(k:Int)<(i:Nat):=by omega
   repeat' first|refine WX ?_|refine W2 ?_ ?_<;>intro hc
   all_goals(first|(change Next _ _ _ _ _ _)|(trace_state;fail))
   all_goals exact Next.go (i+1) ⟨by omega,fun i' hi' q' hq' k' r' hk' hr' m hm'=>by
    by_cases ei:i'=i
    ·subst ei
     rw[hq]at hq'
     injection hq' with hq'
     subst hq'
     exact hin k' (by omega) r' hr' m hm'
    ·exact hall i' (by omega) q' hq' k' r' hk' hr' m hm'⟩ (by omega) (by rw[show(((i+1:Nat):Int))=(i:Int)+1 by omega];exact CW) CH
 ·have h1:¬(i:Int)<((sS.map A1).length:Nat):=by omega
  have hyes:Jg c sS lL:=fun i' q hq k r hk hr m hm=>hall i' (by have:=(a0f.1 hq).1;omega) q hq k r hk hr m hm
  rw[decide_eq_true hyes]
  repeat' first|refine WX ?_|refine W2 ?_ ?_<;>intro hc
  all_goals exact Dd rfl rfl rfl
/-! ### Qg, the end -/
theorem A2q(h:HouseR)(c:SheetR)(hf:h.fits)(hc:c.fits)(G:List Int)(hG:G.length<=4611686018427387904)(e0:¬alE h c G=0):Fz 34 [A0 h.row,A0 c.row,.sl (G.map A1)] (.tup [.sl [],.i (alE h c G)]):=by
 have cs:=Xv h c hf hc G hG e0
 generalize alE h c G=e at*
 refine Fo Tryz.func34 ?_
 repeat' first|refine WY ?_|refine Zb7 ?_|refine V ?_|refine W2 ?_ ?_<;>intro hc
 all_goals exact D2 rfl rfl rfl
theorem A74(l:List Int)(x:Int):A7 (l++[x])=A7 l++([A1 x].flatten).map AV.lf:=by simp[A7]
theorem Aeo(h:HouseR)(c:SheetR)(hf:h.fits)(hc:c.fits)(G:List Int)(hG:G.length<=4611686018427387904)(e0:alE h c G=0):Fz 34 [A0 h.row,A0 c.row,.sl (G.map A1)] (.tup [.sl ((Dl h c G).map A1),.i 0]):=by
 have cs:=Wn h c hf hc G hG e0
 have p:=(Hb e0).1
 have h60:c.cues.length<=60:=by have:=p.v.2.1;omega
 have hls:((stL h c G).map A1).length=c.cues.length:=by rw[a0e,E6]
 have hll:((B0 h c).map A1).length=c.cues.length:=by rw[a0e,Ce]
 refine Fo Tryz.func34 ?_
 repeat' first|refine WX ?_|refine W2 ?_ ?_<;>intro hc
 refine T.kill 2 ?_
 refine p0c (fun k=>k<=c.cues.length) (fun k=>c.cues.length-k) (fun k=>[(12,.i k),(11,rT 2 1 k),(8,.sl ((stL h c G).map A1)),(9,.sl ((B0 h c).map A1))]) (fun k=>[.live (h.row.map .lf),.live (c.row.map .lf),rB (A7 (Ds h c G k)) k]) 0 (a0k _) CW CH ?_
 intro k hk
 by_cases hlt:k<c.cues.length
 ·have h1:(k:Int)<(((stL h c G).map A1).length:Nat):=by omega
  obtain⟨x,hx⟩:=A2 (l:=stL h c G) (k:=k) (by rw[E6];exact hlt)
  obtain⟨y,hy⟩:=A2 (l:=B0 h c) (k:=k) (by rw[Ce];exact hlt)
  have hbx:=A3 (R:=A1) hx
  have hby:=A3 (R:=A1) hy
  have px:=p.st k
  have py:=p.ln k
  have gx:(stL h c G).getD k 0=x:=by rw[a0i,hx];rfl
  have gy:(B0 h c).getD k 0=y:=by rw[a0i,hy];rfl
  have hS:A7 (Ds h c G (k+1))=A7 (Ds h c G k)++([A1 (x+y)].flatten).map AV.lf:=by rw[Mz,A74,Ie,gx,gy]
  rw[gx]at px
  rw[gy]at py
  rcases a3e k with h0|hpos
  ·subst h0
   repeat' first|refine WY ?_|refine Dv 11 ?_|refine Dw 11 ?_|refine Zb0 ?_|refine Zbk ?_|refine V ?_|refine W2 ?_ ?_<;>intro hc
   all_goals(first|(change Next _ _ _ _ _ _)|(trace_state;fail))
   all_goals exact Next.go 1 (by omega) (by omega) CW (by
    show CovH _ _ [_,_,.live (A7 (Ds h c G (0+1)))]
    rw[hS]
    exact .live rfl CH)
  ·rw[Gf hpos,Ge hpos]
   have hcl:(A7 (Ds h c G k)).length=k*1:=by rw[C8,Fe,a4g]
   repeat' first|refine WY ?_|refine Dv 11 ?_|refine Dw 11 ?_|refine Zb0 ?_|refine Zb2 hcl ?_|refine V ?_|refine W2 ?_ ?_<;>intro hc
   all_goals(first|(change Next _ _ _ _ _ _)|(trace_state;fail))
   all_goals exact Next.go (k+1) (by omega) (by omega) CW (by
    show CovH _ _ [_,_,.live (A7 (Ds h c G (k+1)))]
    rw[hS]
    exact .live rfl (.live rfl (.live (by rw[<-a1f];exact Ac _ _) .nil)))
 ·have h1:¬(k:Int)<(((stL h c G).map A1).length:Nat):=by omega
  obtain rfl:k=c.cues.length:=by omega
  refine p2d 11 2 (rows:=(Dl h c G).map A1) (Cd _) (by rw[a0e,Dl,Fe]) rfl rfl ?_
  generalize Dl h c G=L at*
  repeat' first|refine WX ?_|refine W2 ?_ ?_<;>intro hc
  all_goals exact D2 rfl rfl rfl
theorem Tq(h:HouseR)(c:SheetR)(hf:h.fits)(hc:c.fits)(G:List Int)(hG:G.length<=4611686018427387904)(e0:¬alE h c G=0):Fz 12 [A0 h.row,A0 c.row,.sl (G.map A1)] (.tup [.i 0,.i (alE h c G)]):=by
 have cs:=A2q h c hf hc G hG e0
 generalize alE h c G=e at*
 refine Fo Tryz.func12 ?_
 repeat' first|refine WX ?_|refine W2 ?_ ?_<;>intro hc
 all_goals exact D2 rfl rfl rfl
theorem Qb:∀(l:List Int)(a b:Int),l.foldl max (max a b)=max (l.foldl max a) b
 |[],_,_=>rfl
 |x::l,a,b=>by
  rw[a2y,a2y,show max (max a b) x=max (max a x) b by omega]
  exact Qb l _ b
theorem Ae0(l:List Int):mxL (l++[0])=l.foldl max 0:=by
 cases l with
 |nil=>rfl
 |cons x l=>
  show List.foldl max x (l++[0])=_
  rw[a2o,a2y,a2y,a7h,<-Qb,show max x 0=max 0 x by omega]
theorem A63(h:HouseR)(c:SheetR)(hf:h.fits)(hc:c.fits)(G:List Int)(hG:G.length<=4611686018427387904)(e0:alE h c G=0):Fz 12 [A0 h.row,A0 c.row,.sl (G.map A1)] (.tup [.i (endI h c G),.i 0]):=by
 have cs:=Aeo h c hf hc G hG e0
 have p:=(Hb e0).1
 have h60:c.cues.length<=60:=by have:=p.v.2.1;omega
 have hll:(Dl h c G).length=c.cues.length:=Fe h c G _
 have hle:((Dl h c G).map A1).length=(Dl h c G).length:=a0e _
 rw[show endI h c G=(Dl h c G).foldl max 0 from Ae0 _]
 generalize Dl h c G=L at*
 refine Fo Tryz.func12 ?_
 repeat' first|refine WX ?_|refine W2 ?_ ?_<;>intro hc
 refine p0c (fun k=>k<=L.length) (fun k=>L.length-k) (fun k=>[(11,.i k),(10,.i ((L.take k).foldl max 0)),(8,.sl (L.map A1))]) (fun _=>[]) 0 (a0k _) CW .nil ?_
 intro k hk
 by_cases hlt:k<L.length
 ·have h1:(k:Int)<((L.map A1).length:Nat):=by omega
  obtain⟨x,hx⟩:=A2 hlt
  have hb:=A3 (R:=A1) hx
  have hS:(L.take (k+1)).foldl max 0=max ((L.take k).foldl max 0) x:=by rw[Ad hx,a2o];rfl
  generalize(L.take k).foldl max 0=a at*
  by_cases hxa:x>a
  ·rw[show max a x=x by omega]at hS
   repeat' first|refine WX ?_|refine W2 ?_ ?_<;>intro hc
   all_goals(first|(change Next _ _ _ _ _ _)|(trace_state;fail))
   all_goals exact Next.go (k+1) (by omega) (by omega) (by rw[hS,show(((k+1:Nat):Int))=(k:Int)+1 by omega];exact CW) .nil
  ·rw[show max a x=a by omega]at hS
   repeat' first|refine WX ?_|refine W2 ?_ ?_<;>intro hc
   all_goals(first|(change Next _ _ _ _ _ _)|(trace_state;fail))
   all_goals exact Next.go (k+1) (by omega) (by omega) (by rw[hS,show(((k+1:Nat):Int))=(k:Int)+1 by omega];exact CW) .nil
 ·have h1:¬(k:Int)<((L.map A1).length:Nat):=by omega
  rw[a0g (by omega)]
  generalize L.foldl max 0=a at*
  repeat' first|refine WX ?_|refine W2 ?_ ?_<;>intro hc
  all_goals exact D2 rfl rfl rfl
theorem Agd(m n:Int):mil (m+n)=mil m+mil n:=by
 have h1:=Eh (m+n)
 have h2:=Eh m
 have h3:=Eh n
 rw[a4a]at h1
 grind
theorem Aac{h:HouseR}{c:SheetR}{i k:Nat}{q:CueR}{m:MoveR}{s:SetR}(v:validP h c)(hq:c.cues[i]?=some q)(hm:mvO q s.name=some m)(hs:h.sets[k]?=some s)(hz:¬m.to=(B5 h c i).getD k 0):
  G6 (max (m.to-(B5 h c i).getD k 0) ((B5 h c i).getD k 0-m.to)) m<=mil ((B0 h c).getD i 0):=by
 have g:=F6 v hq
 obtain⟨hmq,hms⟩:=mvO_spec.1 m hm
 have hlk:k<h.sets.length:=(a0f.1 hs).1
 obtain⟨z,hzk⟩:=A2 (l:=B5 h c i) (k:=k) (by rw[g.len];exact hlk)
 have hgz:(B5 h c i).getD k 0=z:=by rw[a0i,hzk];rfl
 have hp:(Aa h m.set).toNat=k:=by rw[hms,Ac3 v.1 hs,a0q]
 have hd:Lb h (B5 h c i) m=max (m.to-z) (z-m.to):=by
  rw[Jq (h:=h) (n:=z) (by rw[hp];exact hzk)]
  congr 1
  omega
 rw[hgz]at hz⊢
 have hmv:Hr h (B5 h c i) m=G6 (max (m.to-z) (z-m.to)) m:=by
  unfold Hr
  rw[hd]
  unfold I7
  rw[if_neg (by omega)]
 have h1:=(A5f h (B5 h c i) q.moves 0).2 m hmq
 rw[hmv]at h1
 change _<=C9 h (B5 h c i) q.moves at h1
 rw[<-Si hq]at h1
 have hil:i<c.cues.length:=(a0f.1 hq).1
 have h2:(B0 h c).getD i 0=msI h c i:=by rw[a0i,Aa6 h c hil];rfl
 rw[h2]
 have h3:=Aip (msQ h c i)
 have h4:=Eh (msI h c i)
 unfold msI msQ at*
 grind
theorem A2j{h:HouseR}{c:SheetR}{S:List Int}(v:validP h c)(hS:∀i,0<=S.getD i 0)(ho:Jg c S (B0 h c)){k:Nat}{s:SetR}(hs:h.sets[k]?=some s):∀i,i<=c.cues.length->Ag (Bm h c S k s i)/\∃A l,Bm h c S k s i=A++[l]/\∀j q m,i<=j->c.cues[j]?=some q->mvO q s.name=some m->l.f<=mil (S.getD j 0)
 |0,_=>by
  refine⟨fun i hi=>(by simp[Bm]at hi),[],⟨0,(s.high:Rat),0,0⟩,rfl,fun j q m _ _ _=>?_⟩
  show(0:Rat)<=_
  rw[<-Adt]
  exact P5 (hS j)
 |i+1,hi=>by
  obtain⟨h1,A,l,hA,hl⟩:=A2j v hS ho hs i (by omega)
  obtain⟨q,hq⟩:=A2 (l:=c.cues) (k:=i) (by omega)
  have hK:Bm h c S k s (i+1)=(Dt h c S k s.name i).foldl Be (Bm h c S k s i):=rfl
  have stay:Dt h c S k s.name i=[]->Ag (Bm h c S k s (i+1))/\∃A l,Bm h c S k s (i+1)=A++[l]/\∀j q m,i+1<=j->c.cues[j]?=some q->mvO q s.name=some m->l.f<=mil (S.getD j 0):=fun e1=>by
   rw[hK,e1]
   exact⟨h1,A,l,hA,fun j q m hj=>hl j q m (by omega)⟩
  cases e:mvO q s.name with
  |none=>exact stay (by unfold Dt;rw[hq];dsimp only;rw[e])
  |some m=>
   have hnew:Dt h c S k s.name i=Jf (S.getD i 0) ((B5 h c i).getD k 0) m:=by unfold Dt;rw[hq];dsimp only;rw[e]
   by_cases ez:m.to=(B5 h c i).getD k 0
   ·exact stay (by rw[hnew];unfold Jf;rw[if_pos ez])
   ·have hov:=Aac v hq e hs ez
    have g:=F6 v hq
    obtain⟨hmq,hms⟩:=mvO_spec.1 m e
    obtain⟨_,_,_,_,_,hmv,_⟩:=g.right
    have hmi:=hmv m hmq
    have hmr:=hmi.range v.1
    have hlk:k<h.sets.length:=(a0f.1 hs).1
    obtain⟨z,hz⟩:=A2 (l:=B5 h c i) (k:=k) (by rw[g.len];exact hlk)
    have hz1:=g.trims k z s hz hs
    have hgz:(B5 h c i).getD k 0=z:=by rw[a0i,hz];rfl
    have hsp:=(v.1.2.2.2.2.2.1 s (a0a hs)).1
    obtain⟨_,_,s1,s2,s3,_⟩:=hsp
    rw[hgz]at hnew ez hov
    have hd:1<=max (m.to-z) (z-m.to)/\max (m.to-z) (z-m.to)<=1048576:=by omega
    have hcs:=A7f hmi.1 hd
    obtain⟨y,Y,hy,hy0,hlast⟩:=A3t (max (m.to-z) (z-m.to)) m
    have hyf:y.f=0:=by
     have:(D7 (max (m.to-z) (z-m.to)) m).head?=some y:=by rw[hy];rfl
     unfold D7 at this
     split at this<;>(simp only[List.head?_cons,a0h]at this;rw[<-this])
    have hY:Dt h c S k s.name i=(y::Y).map (Af (S.getD i 0) z (z<m.to)):=by
     rw[hnew]
     unfold Jf
     rw[if_neg ez,hy]
    have hsc:=A88 hcs (S.getD i 0) z (z<m.to)
    rw[hy]at hsc
    have hsf:∀x:PcQ,(Af (S.getD i 0) z (z<m.to) x).f=mil (S.getD i 0)+x.f:=fun x=>by unfold Af;split<;>rfl
    rw[hK,hA,hY]
    obtain⟨r1,B,r2⟩:=Wh ((y::Y).map (Af (S.getD i 0) z (z<m.to))) A l (hA▸h1) (fun x Z ex=>by
     rw[a2g]at ex
     injection ex with ex _
     rw[<-ex,hsf,hyf]
     have:=hl i q m (a0n _) hq e
     grind) hsc
    refine⟨r1,B,_,r2,fun j q2 m2 hj hq2 hm2=>?_⟩
    have hgl:(l::(y::Y).map (Af (S.getD i 0) z (z<m.to))).getLast (by simp)=Af (S.getD i 0) z (z<m.to) ⟨G6 (max (m.to-z) (z-m.to)) m,((max (m.to-z) (z-m.to):Int):Rat),0,0⟩:=by
     rw[List.getLast_cons (by simp)]
     rw[List.getLast_map,hlast]
    rw[hgl,hsf]
    obtain⟨hmq2,hms2⟩:=mvO_spec.1 m2 hm2
    have hor:=ho j q2 hq2 i q (by omega) hq m2 hmq2 (by rw[hms2,e];rfl)
    have h5:=P5 hor
    rw[Agd]at h5
    dsimp only
    grind
end Go.Proofs.YtcaicpnepfjcmaaGreat
