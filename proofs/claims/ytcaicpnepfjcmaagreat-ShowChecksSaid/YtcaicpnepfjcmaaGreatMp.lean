/- Lemmas of the proof. -/
import Derived.Test.YtcaicpnepfjcmaaGreatQc
set_option linter.all false
set_option maxHeartbeats 64000000
namespace Go.Proofs.YtcaicpnepfjcmaaGreat
open Go Go.RowKit
def a2h:= @Rat.intCast_mul
def a4a:= @Rat.intCast_add
def a4x:= @Rat.intCast_sub
def a5m:= @Nat.min_eq_left
def b2u:= @Int.one_mul
theorem Lm(n d:Int)(hd:d≠0)(n1: -9223372036854775808<=n)(n2:n<=9223372036854775807)(d1: -9223372036854775808<=d)(d2:d<=9223372036854775807)(hf:Fits (A4 n d)):Fz 46 [.i n,.i d] (frE (A4 n d) 0):=Fy hf▸Ah1 n d hd n1 n2 d1 d2
theorem Zg(p q:Rat)(hp:Fits p)(hq:Fits q)(hf:Fits (p+q)):Fz 177 [A0 (frR p),A0 (frR q)] (frE (p+q) 0):=Fy hf▸A2z p q hp hq
theorem Rh(p q:Rat)(hp:Fits p)(hq:Fits q)(hf:Fits (p-q)):Fz 96 [A0 (frR p),A0 (frR q)] (frE (p-q) 0):=Fy hf▸Ac1 p q hp hq
theorem Abm(p q:Rat)(hp:Fits p)(hq:Fits q)(h0:q≠0)(hf:Fits (p/q)):Fz 150 [A0 (frR p),A0 (frR q)] (frE (p/q) 0):=Fy hf▸Aij p q hp hq h0
theorem Rg(p q:Rat)(hp:Fits p)(hq:Fits q):Fz 39 [A0 (frR p),A0 (frR q)] (.tup [.i (Ay p q),.i 0]):=Aii p q hp hq
theorem Um(n d:Int)(hd:d≠0)(n1: -9223372036854775808<=n)(n2:n<=9223372036854775807)(d1: -9223372036854775808<=d)(d2:d<=9223372036854775807)(hf:Fits (A4 n d)):Fz 30 [.i n,.i d] (frE (A4 n d) 0):=Fy hf▸Agv n d hd n1 n2 d1 d2
theorem Pp{P:Program}{st:St}{fn:Func}{t b:Nat}{ty:TypeId}{cells:List AV}{ds:TypeDesc}{e:Exit}(cs:List Lf)[hu:HasU P ty ds][hi:HasS P ty cs.length](hr:fn.results= #[.cell t ty])(he:e=.normal\/e=.ret)(h:st.tm.get t=some (.ptr b 0))(hb:st.H.at b=.live cells)(hd:ds.isRow=true)(hc:cells=cs.map .lf):Ao P fn (A0 cs) e st:=
 ⟨he,[A0 cs],by rw[hr];exact .cons (Res.row cs h hb hd hc (a6p _)) .nil,.one (.agg (C5 cs))⟩
theorem Vg(a b:Int):Fz 231 [A0 [.i a,.i b],.i 0,.rop [.i 0]] (A0 [.i a,.i b]):=by
 refine Fo Tryz.func231 ?_
 repeat' first|refine WX ?_|refine W2 ?_ ?_<;>intro hc
 all_goals exact Pp [.i a,.i b] Tryz.results231 (by first|exact .inl rfl|exact .inr rfl) rfl rfl rfl rfl
theorem Td(n:Int):Fz 232 [.i n] (A0 (frR (n:Rat))):=by
 refine Fo Tryz.func232 ?_
 repeat' first|refine WX ?_|refine W2 ?_ ?_<;>intro hc
 all_goals exact Pp (frR (n:Rat)) Tryz.results232 (by first|exact .inl rfl|exact .inr rfl) rfl rfl rfl rfl
theorem A29{H:AH}{a b:Int}{x:AV}(h:Out1 H x (.rop [.i 0])):Out2L H [A0 [.i a,.i b],.i 0,x] [A0 [.i a,.i b],.i 0,.rop [.i 0]]:=
 .cons (.agg (show OutL H ([Lf.i a,.i b].map .lf) ([Lf.i a,.i b].map .lf)from C5 _)) (.cons (.one (.lf _)) (.cons (.one h) .nil))
theorem Hg(n d:Int)(hd:d≠0)(n1: -9223372036854775808<=n)(n2:n<=9223372036854775807)(d1: -9223372036854775808<=d)(d2:d<=9223372036854775807)(hf:Fits (A4 n d)):Fz 233 [.i n,.i d,.rop [.fn (.func 231) [[.i 0]]]] (A0 (frR (A4 n d))):=by
 refine Fo Tryz.func233 ?_
 repeat' first|refine W ?_|refine Dw 7 ?_|refine Zc (Lm n d hd n1 n2 d1 d2 hf) ?_|(apply S.callFV;(iterate 3 exact rfl);exact Vg (A4 n d).num (A4 n d).den;exact A29 (.rop _);exact rfl;exact rfl)|refine V ?_|refine W2 ?_ ?_<;>intro hc
 all_goals exact Pp (frR (A4 n d)) Tryz.results233 (by first|exact .inl rfl|exact .inr rfl) rfl rfl rfl rfl
/-! ### The fractions -/
theorem Df(n d:Int):A4 n d=(n:Rat)/(d:Rat):=Rat.divInt_eq_div n d
theorem Bu{n d:Int}(h1: -1152921504606846976<=n)(h2:n<=1152921504606846976)(h3:1<=d)(h4:d<=1152921504606846976):Fits (A4 n d):=by
 obtain⟨e1,e2⟩:=Xo n d (by omega)
 have hg:0<(Int.gcd n d:Int):=by
  have:0<Int.gcd n d:=a7t n (by omega)
  omega
 have k1:(n.natAbs:Int)/(Int.gcd n d:Int)<=n.natAbs:=a2q _ (by omega)
 have k2:(d.natAbs:Int)/(Int.gcd n d:Int)<=d.natAbs:=a2q _ (by omega)
 have k3:0<=(n.natAbs:Int)/(Int.gcd n d:Int):=a1y (by omega) (by omega)
 constructor
 ·rw[e1]
  split<;>omega
 ·omega
theorem Bx{n:Int}(h1: -1152921504606846976<=n)(h2:n<=1152921504606846976):Fits (n:Rat):=
 ⟨by show n.natAbs<=_;omega,by show 1<=_;omega⟩
theorem E3{a b A B:Int}(ha:0<=a/\a<=A)(hb:0<=b/\b<=B):0<=a*b/\a*b<=A*B:=⟨a2c ha.1 hb.1,a3w ha.2 hb.2 hb.1 (by omega)⟩
theorem L6{a b:Int}(ha:1<=a)(hb:1<=b):1<=a*b:=by
 have:=a3s (by omega:0<a) (by omega:0<b)
 omega
theorem A6n(P:Nat->Bool):∀k,Ka P k<=k
 |0=>a0n _
 |k+1=>by
  rw[Ka]
  split
  ·exact a0n _
  ·have:=A6n P k;omega
theorem A3j{P:Nat->Bool}(h:P 1=true):∀k,1<=k->1<=Ka P k
 |0,hk=>by omega
 |k+1,_=>by
  rw[Ka]
  split
  ·omega
  ·rename_i hn
   rcases a3e k with rfl|hk
   ·exact absurd h hn
   ·exact A3j h k hk
theorem Rr{d:Int}{m:MoveR}(hm:Cm m)(hd:1<=d/\d<=1048576):1<=Ai d m/\Ai d m<=8192:=by
 obtain⟨_,_,h3,h4,h5⟩:=hm
 unfold Ai
 rw[if_neg (by omega)]
 have hle:=A6n (fun w=>decide (Dm d m w)) m.speed.toNat
 refine⟨A3j (decide_eq_true ?_) _ (by omega),by omega⟩
 unfold Dm
 have e1:m.rise<=m.rise*m.fall:=by
  have:=a7p h5.1 (by omega:0<=m.rise)
  omega
 have e2:m.fall<=m.rise*m.fall:=by
  have:=a3q h4.1 (by omega:0<=m.fall)
  omega
 have e3:2*(m.rise*m.fall)<=2*d*m.rise*m.fall:=by
  have:=a3q (show 2<=2*d by omega) (show 0<=m.rise*m.fall by omega)
  rw[a3x (2*d)]
  exact this
 simp only[Int.natCast_one,b2u]
 omega
theorem A3r{k n:Nat}{l:List Lf}(hl:l.length=k*n):∀row∈chunks k n l,row.length=n:=fun row h=>by
 obtain⟨i,hi⟩:=a2x h
 exact(Qm k l i row hl hi).1
theorem Jz{H:AH}{b9 b10:Nat}{f:FuncId}{n d:Int}(h10:H.at b10=.live [.fn (.func f) [] [.ptr b9 0]])(h9:H.at b9=.live [.lf (.i 0)]):Out2L H [.i n,.i d,.ptr b10 0] [.i n,.i d,.rop [.fn (.func f) [[.i 0]]]]:=by
 refine .cons (.one (.lf _)) (.cons (.one (.lf _)) (.cons (.one (.ptrF h10 fun j x hj=>?_)) .nil))
 match j,hj with
 |0,hj=>
  simp at hj
  subst hj
  refine⟨_,rfl,.fn rfl fun i cs hi=>?_⟩
  match i,hi with
  |0,hi=>
   simp at hi
   subst hi
   refine⟨b9,0,_,rfl,h9,fun j x hj=>?_⟩
   match j,hj with
   |0,hj=>simpa using hj
section
variable (d:Int)(m:MoveR)
abbrev Km:Rat:=A4 (Ai d m*Ai d m) (2*m.rise)
abbrev Na:Rat:=A4 (Ai d m*Ai d m) (2*m.fall)
abbrev Gd:Rat:=A4 (Ai d m) m.rise
abbrev So:Rat:=A4 (Ai d m) m.fall
abbrev Aef:Rat:=(d:Rat)-Km d m
abbrev Jj:Rat:=Aef d m-Na d m
abbrev Pi:Rat:=Jj d m/((Ai d m:Int):Rat)
abbrev F8:Rat:=Gd d m+Pi d m
abbrev G6:Rat:=F8 d m+So d m
abbrev Pj:Rat:=(d:Rat)-Na d m
end
theorem Kw{n:Int}(h:n≠0):(n:Rat)≠0:=fun e=>h (Rat.intCast_inj.1 (e.trans (show(0:Rat)=((0:Int):Rat)from rfl)))
structure CurveOk(d:Int)(m:MoveR):Prop where
 w:1<=Ai d m/\Ai d m<=8192
 ww:1<=(Ai d m:Int)*Ai d m/\(Ai d m:Int)*Ai d m<=67108864
 rise:Fits (Km d m)
 fall:Fits (Na d m)
 start:Fits (Gd d m)
 last:Fits (So d m)
 way:Fits (Aef d m)
 run:Fits (Jj d m)
 flat:Fits (Pi d m)
 stop:Fits (F8 d m)
 fin:Fits (G6 d m)
 top:Fits (Pj d m)
 half:Fits (A4 m.rise 2)
 halfF:Fits (A4 (-m.fall) 2)
 speed:Fits ((Ai d m:Int):Rat)
 dist:Fits (d:Rat)
 time:G6 d m=A4 (2*m.rise*m.fall*d+Ai d m*Ai d m*(m.rise+m.fall)) (2*m.rise*m.fall*Ai d m)
theorem Ib{d:Int}{m:MoveR}(hm:Cm m)(hd:1<=d/\d<=1048576):CurveOk d m:=by
 have hw:=Rr hm hd
 obtain⟨_,_,h3,h4,h5⟩:=hm
 obtain⟨w,hwe⟩:∃w:Int,w=(Ai d m:Int):=⟨_,rfl⟩
 obtain⟨R,hRe⟩:∃R:Int,R=m.rise:=⟨_,rfl⟩
 obtain⟨F,hFe⟩:∃F:Int,F=m.fall:=⟨_,rfl⟩
 rw[<-hRe]at h4
 rw[<-hFe]at h5
 have hw':1<=w/\w<=8192:=by omega
 have r0:=Kw (n:=R) (by omega)
 have f0:=Kw (n:=F) (by omega)
 have w0:=Kw (n:=w) (by omega)
 have ww:=E3 (a:=w) (b:=w) (A:=8192) (B:=8192) (by omega) (by omega)
 have ww1:=L6 (a:=w) (b:=w) (by omega) (by omega)
 have rf:=E3 (a:=2*R) (b:=F) (A:=32768) (B:=16384) (by omega) (by omega)
 have rf1:=L6 (a:=2*R) (b:=F) (by omega) (by omega)
 have rfd:=E3 (a:=2*R*F) (b:=d) (A:=536870912) (B:=1048576) (by omega) (by omega)
 have rfw:=E3 (a:=2*R*F) (b:=w) (A:=536870912) (B:=8192) (by omega) (by omega)
 have rfw1:=L6 (a:=2*R*F) (b:=w) (by omega) (by omega)
 have wrf:=E3 (a:=w*w) (b:=R+F) (A:=67108864) (B:=32768) (by omega) (by omega)
 have rd:=E3 (a:=2*R) (b:=d) (A:=32768) (B:=1048576) (by omega) (by omega)
 have fd:=E3 (a:=2*F) (b:=d) (A:=32768) (B:=1048576) (by omega) (by omega)
 have fww:=E3 (a:=2*F) (b:=w*w) (A:=32768) (B:=67108864) (by omega) (by omega)
 have e1:(d:Rat)-A4 (w*w) (2*R)=A4 (2*R*d-w*w) (2*R):=by
  simp only[Df,a2h,a4x,a4a]
  rw[show(((2:Int)):Rat)=2 from rfl]
  grind
 have e2:(d:Rat)-A4 (w*w) (2*R)-A4 (w*w) (2*F)=A4 (2*R*F*d-w*w*(R+F)) (2*R*F):=by
  simp only[Df,a2h,a4x,a4a]
  rw[show(((2:Int)):Rat)=2 from rfl]
  grind
 have e3:((d:Rat)-A4 (w*w) (2*R)-A4 (w*w) (2*F))/(w:Rat)=A4 (2*R*F*d-w*w*(R+F)) (2*R*F*w):=by
  simp only[Df,a2h,a4x,a4a]
  rw[show(((2:Int)):Rat)=2 from rfl]
  grind
 have e4:A4 w R+((d:Rat)-A4 (w*w) (2*R)-A4 (w*w) (2*F))/(w:Rat)=A4 (2*R*F*d-w*w*(R+F)+2*F*(w*w)) (2*R*F*w):=by
  simp only[Df,a2h,a4x,a4a]
  rw[show(((2:Int)):Rat)=2 from rfl]
  grind
 have e5:A4 w R+((d:Rat)-A4 (w*w) (2*R)-A4 (w*w) (2*F))/(w:Rat)+A4 w F=A4 (2*R*F*d+w*w*(R+F)) (2*R*F*w):=by
  simp only[Df,a2h,a4x,a4a]
  rw[show(((2:Int)):Rat)=2 from rfl]
  grind
 have e6:(d:Rat)-A4 (w*w) (2*F)=A4 (2*F*d-w*w) (2*F):=by
  simp only[Df,a2h,a4x,a4a]
  rw[show(((2:Int)):Rat)=2 from rfl]
  grind
 have g1:Fits (A4 (w*w) (2*R)):=Bu (by omega) (by omega) (by omega) (by omega)
 have g2:Fits (A4 (w*w) (2*F)):=Bu (by omega) (by omega) (by omega) (by omega)
 have g3:Fits (A4 w R):=Bu (by omega) (by omega) (by omega) (by omega)
 have g4:Fits (A4 w F):=Bu (by omega) (by omega) (by omega) (by omega)
 have g5:Fits ((d:Rat)-A4 (w*w) (2*R)):=by rw[e1];exact Bu (by omega) (by omega) (by omega) (by omega)
 have g6:Fits ((d:Rat)-A4 (w*w) (2*R)-A4 (w*w) (2*F)):=by rw[e2];exact Bu (by omega) (by omega) (by omega) (by omega)
 have g7:Fits (((d:Rat)-A4 (w*w) (2*R)-A4 (w*w) (2*F))/(w:Rat)):=by rw[e3];exact Bu (by omega) (by omega) (by omega) (by omega)
 have g8:Fits (A4 w R+((d:Rat)-A4 (w*w) (2*R)-A4 (w*w) (2*F))/(w:Rat)):=by rw[e4];exact Bu (by omega) (by omega) (by omega) (by omega)
 have g9:Fits (A4 w R+((d:Rat)-A4 (w*w) (2*R)-A4 (w*w) (2*F))/(w:Rat)+A4 w F):=by rw[e5];exact Bu (by omega) (by omega) (by omega) (by omega)
 have g10:Fits ((d:Rat)-A4 (w*w) (2*F)):=by rw[e6];exact Bu (by omega) (by omega) (by omega) (by omega)
 have g11:Fits (A4 R 2):=Bu (by omega) (by omega) (by omega) (by omega)
 have g12:Fits (A4 (-F) 2):=Bu (by omega) (by omega) (by omega) (by omega)
 have g13:Fits (w:Rat):=Bx (by omega) (by omega)
 have g14:Fits (d:Rat):=Bx (by omega) (by omega)
 have hww:1<=w*w/\w*w<=67108864:=by omega
 subst hwe hRe hFe
 exact⟨hw,hww,g1,g2,g3,g4,g5,g6,g7,g8,g9,g10,g11,g12,g13,g14,e5⟩
theorem p5t{N:Nat}{ops:Array Oper}{m:Option Nat}{K:Tm->AH->Prop}{tm:Tm}{H:AH}{rest:List Oper}{ty:TypeId}{pos:String}{af:Array Edge}{d:Nat}{f:Operand}{fv x:AV}{xs:Array Operand}{ts:Array TypeId}{a b:Int}(hf:evT tm f=some fv)(hfn:fnOf fv=some (231,[x]))(hx:evs (evT tm) xs.toList=some [A0 [.i a,.i b],.i 0])(hz:Out1 (N3 m H) x (.rop [.i 0]))(hN:LN d N)(h:Reg m Tryz.prog N ops rest ((d,A0 [.i a,.i b])::tm) H K):Reg m Tryz.prog N ops (⟨some d,.call ⟨.value f,xs,ts⟩,ty,pos,af,none⟩::rest) tm H K:=
 S.callFV hf hfn hx (Vg a b) (A29 hz) rfl hN h
abbrev Kt(f a b c:List Lf):List Lf:=f++a++b++c
abbrev frZ:List Lf:=[.i 0,.i 1]
def Pr(d:Int)(m:MoveR):List (List Lf):=[Kt frZ frZ frZ (frR (A4 m.rise 2)),Kt (frR (F8 d m)) (frR (Pj d m)) (frR ((Ai d m:Int):Rat)) (frR (A4 (-m.fall) 2)),Kt (frR (G6 d m)) (frR (d:Rat)) frZ frZ]
def Ps(d:Int)(m:MoveR):List (List Lf):=[Kt frZ frZ frZ (frR (A4 m.rise 2)),Kt (frR (Gd d m)) (frR (Km d m)) (frR ((Ai d m:Int):Rat)) frZ,Kt (frR (F8 d m)) (frR (Pj d m)) (frR ((Ai d m:Int):Rat)) (frR (A4 (-m.fall) 2)),Kt (frR (G6 d m)) (frR (d:Rat)) frZ frZ]
theorem Abv(d:Int)(m:MoveR):∀r∈Pr d m,r.length=8:=by
 intro r hr
 simp only[Pr,a1q,a2t,or_false]at hr
 rcases hr with rfl|rfl|rfl<;>rfl
theorem Abw(d:Int)(m:MoveR):∀r∈Ps d m,r.length=8:=by
 intro r hr
 simp only[Ps,a1q,a2t,or_false]at hr
 rcases hr with rfl|rfl|rfl|rfl<;>rfl
def M8(d:Int)(m:MoveR):List (List Lf):=if(Jj d m).num=0 then Pr d m else Ps d m
set_option maxRecDepth 100000 in
theorem Wf(d:Int)(m:MoveR)(hm:Cm m)(hd:1<=d/\d<=1048576):Fz 170 [.i d,A0 m.row] (.tup [.sl (M8 d m),.i 0]):=by
 have K:=Ib hm hd
 have k1:=K.w
 have k2:=K.ww
 have cg:Fz 229 [.i d,A0 m.row] (.i 0):=by
  have:=Wg d m
  rwa[show Y8 d m=0 by unfold Y8;rw[if_pos hm,if_pos (by omega)]]at this
 have ct:=Aea d m hm (by omega)
 have hmv:=hm
 obtain⟨_,_,h3,h4,h5⟩:=hm
 have o1:=Hg (Ai d m*Ai d m) (2*m.rise) (by omega) (by omega) (by omega) (by omega) (by omega) K.rise
 have o2:=Hg (Ai d m*Ai d m) (2*m.fall) (by omega) (by omega) (by omega) (by omega) (by omega) K.fall
 have o3:=Hg (Ai d m) m.rise (by omega) (by omega) (by omega) (by omega) (by omega) K.start
 have o4:=Hg (Ai d m) m.fall (by omega) (by omega) (by omega) (by omega) (by omega) K.last
 have o5:=Hg m.rise 2 (by omega) (by omega) (by omega) (by omega) (by omega) K.half
 have o6:=Hg (-m.fall) 2 (by omega) (by omega) (by omega) (by omega) (by omega) K.halfF
 have u1:=Td d
 have u2:=Td (Ai d m)
 have s1:=Rh (d:Rat) (Km d m) K.dist K.rise K.way
 have s2:=Rh (Aef d m) (Na d m) K.way K.fall K.run
 have s3:=Abm (Jj d m) ((Ai d m:Int):Rat) K.run K.speed (Kw (by omega)) K.flat
 have s4:=Zg (Gd d m) (Pi d m) K.start K.flat K.stop
 have s5:=Zg (F8 d m) (So d m) K.stop K.last K.fin
 have s6:=Rh (d:Rat) (Na d m) K.dist K.fall K.top
 have hd0:¬d=0:=by omega
 refine Fo Tryz.func170 ?_
 repeat' first|refine WY ?_|refine Dv 9 ?_|refine Dw 16 ?_|refine Dw 15 ?_|refine Dw 11 ?_|refine Dw 9 ?_|refine Dw 28 ?_|refine Da ?_|(apply p5t;(iterate 3 exact rfl);exact .ptr0 rfl;exact rfl)|(apply S.callFV;(iterate 3 exact rfl);exact u1;exact .cons (.one (.lf _)) .nil;exact rfl;exact rfl)|(apply S.callFV;(iterate 3 exact rfl);exact u2;exact .cons (.one (.lf _)) .nil;exact rfl;exact rfl)|(apply S.callFV;(iterate 3 exact rfl);exact o1;exact Jz rfl rfl;exact rfl;exact rfl)|(apply S.callFV;(iterate 3 exact rfl);exact o2;exact Jz rfl rfl;exact rfl;exact rfl)|(apply S.callFV;(iterate 3 exact rfl);exact o3;exact Jz rfl rfl;exact rfl;exact rfl)|(apply S.callFV;(iterate 3 exact rfl);exact o4;exact Jz rfl rfl;exact rfl;exact rfl)|(apply S.callFV;(iterate 3 exact rfl);exact o5;exact Jz rfl rfl;exact rfl;exact rfl)|(apply S.callFV;(iterate 3 exact rfl);exact o6;exact Jz rfl rfl;exact rfl;exact rfl)|refine Zd2 ?_|(apply p0h;(iterate 9 exact rfl);exact A3r rfl;exact rfl;exact rfl;simp[La];simp[La])|(apply p0x (d:=110);(iterate 6 exact rfl))|refine Zb4 ?_|refine V ?_|refine W2 ?_ ?_<;>intro hc
 all_goals first
  |(rw[show M8 d m=Pr d m from if_pos (by assumption)]
    exact⟨.inr rfl,[_,_],.cons (.tmp rfl) (.cons (.tmp rfl) .nil),.tup (.cons (.one (.own (rows:=Pr d m) rfl (OwnRows.of (Pr d m).flatten (Abv d m) rfl))) (.cons (.one (.lf _)) .nil))⟩)
  |(rw[show M8 d m=Ps d m from if_neg (by assumption)]
    exact⟨.inr rfl,[_,_],.cons (.tmp rfl) (.cons (.tmp rfl) .nil),.tup (.cons (.one (.own (rows:=Ps d m) rfl (OwnRows.of (Ps d m).flatten (Abw d m) rfl))) (.cons (.one (.lf _)) .nil))⟩)
theorem A49(m:MoveR)(hm:Cm m):Fz 170 [.i 0,A0 m.row] (.tup [.sl [Kt frZ frZ frZ frZ],.i 0]):=by
 have cg:Fz 229 [.i 0,A0 m.row] (.i 0):=by
  have:=Wg 0 m
  rwa[show Y8 0 m=0 by unfold Y8;rw[if_pos hm,if_pos (by omega)]]at this
 refine Fo Tryz.func170 ?_
 repeat' first|refine WY ?_|refine Zb4 ?_|refine V ?_|refine W2 ?_ ?_<;>intro hc
 all_goals exact D2 rfl rfl rfl
structure PieceR where
 f1:Int
 f2:Int
 a1:Int
 a2:Int
 b1:Int
 b2:Int
 c1:Int
 c2:Int
def PieceR.row(p:PieceR):List Lf:=[.i p.f1,.i p.f2,.i p.a1,.i p.a2,.i p.b1,.i p.b2,.i p.c1,.i p.c2]
def PieceR.at(p:PieceR):List Lf:=[.i p.f1,.i p.f2]
def Aj1:Nat->AV
 |0=>.val (.slice none 0 0)
 |k+1=>.own 1 0 (k+1) 2
def Aj0(l:List PieceR):Nat->HB
 |0=>.dead
 |k+1=>.live (((l.take (k+1)).map PieceR.at).flatten.map .lf)
theorem at_len(l:List PieceR):∀r∈l.map PieceR.at,r.length=2:=by
 intro r hr
 obtain⟨p,_,rfl⟩:=a1d.1 hr
 rfl
theorem Adl{l:List PieceR}{k:Nat}(h:k<=l.length):(((l.take k).map PieceR.at).flatten.map AV.lf).length=k*2:=by
 rw[a0e,Bc _ (at_len _),a0e,a0x,a5m h]
theorem Yr{l:List PieceR}{k:Nat}{x:PieceR}(h:l.take (k+1)=l.take k++[x]):((l.take (k+1)).map PieceR.at).flatten.map AV.lf=((l.take k).map PieceR.at).flatten.map AV.lf++([x.at].flatten).map AV.lf:=by
 rw[h];simp
theorem A7r(d:Int)(m:MoveR)(l:List PieceR)(hl:l.length<=4)(h0:l≠[])(hc:Fz 170 [.i d,A0 m.row] (.tup [.sl (l.map PieceR.row),.i 0])):Fz 259 [.i d,A0 m.row] (.tup [.sl (l.map PieceR.at),.i 0]):=by
 have hle:=lmA l PieceR.row
 refine Fo Tryz.func259 ?_
 repeat' first|refine WX ?_|refine W2 ?_ ?_<;>intro hc
 refine T.kill 1 ?_
 refine p0c (fun k=>k<=l.length) (fun k=>l.length-k) (fun k=>[(22,.i k),(21,.i (l.map PieceR.row).length),(20,.sl (l.map PieceR.row)),(8,Aj1 k)]) (fun k=>[.live (m.row.map .lf),Aj0 l k]) 0 (a0k _) CV CH ?_
 intro k hk
 by_cases hlt:k<l.length
 ·have h1:(k:Int)<((l.map PieceR.row).length:Nat):=by omega
  obtain⟨x,hx⟩:=A2 hlt
  have hb:=A3 (R:=PieceR.row) hx
  have hsn:=Ad hx
  cases k with
  |zero=>
   repeat' first|refine WY ?_|refine Zb0 ?_|refine Zbd ?_|refine V ?_|refine W2 ?_ ?_<;>intro hc
   exact Next.go 1 (by omega) (by omega) CV (by
    show CovH _ _ [_,.live (((l.take (0+1)).map PieceR.at).flatten.map .lf)]
    rw[Yr hsn]
    exact .live rfl (.live rfl .nil))
  |succ k=>
   repeat' first|refine WY ?_|refine Zb0 ?_|refine Zb2 (Adl hk) ?_|refine V ?_|refine W2 ?_ ?_<;>intro hc
   exact Next.go (k+2) (by omega) (by omega) CV (by
    show CovH _ _ [_,.live (((l.take (k+1+1)).map PieceR.at).flatten.map .lf)]
    rw[Yr hsn]
    exact .live rfl (.live (by rw[<-a1f];exact Ac _ _) .nil))
 ·have h1:¬(k:Int)<((l.map PieceR.row).length:Nat):=by omega
  have hkl:k=l.length:=by omega
  repeat' first|refine WX ?_|refine W2 ?_ ?_<;>intro hc
  cases k with
  |zero=>exact absurd (a0z hkl.symm) h0
  |succ k=>
   have ht:l.take (k+1)=l:=a0g (by omega)
   refine⟨.inr rfl,[_,_],.cons (.tmp rfl) (.cons (.tmp rfl) .nil),.tup (.cons (.one (.own (rows:=l.map PieceR.at) (cells:=((l.map PieceR.at).flatten.map .lf)) ?_ ?_)) (.cons (.one (.lf _)) .nil))⟩
   ·show HB.live (((l.take (k+1)).map PieceR.at).flatten.map .lf)=_
    rw[ht]
   ·have:=OwnRows.of (l.map PieceR.at).flatten (at_len l) rfl
    rw[a0e,<-hkl]at this
    exact this
end Go.Proofs.YtcaicpnepfjcmaaGreat
