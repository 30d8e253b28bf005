/- Lemmas of the proof. -/
import Derived.Test.YtcaicpnepfjcmaaGreatPd
set_option linter.all false
set_option maxHeartbeats 64000000
namespace Go.Proofs.YtcaicpnepfjcmaaGreat
open Go Go.RowKit
def a8m:= @List.length_pos_of_mem
def b0p:= @List.drop_length_add_append
theorem A52(l:List Rat)(i:Nat)(q:Rat)(h:l[i]?=some q):fa (l.take (i+1))=fa (l.take i)++[.i q.num,.i q.den]:=by
 rw[a0u,h]
 simp[fa,A03,Cp]
theorem Ee(a b:List PcQ):((a++b).map (·.f)).length=(a++b).length:=a0e _
theorem A7s(g:FuncId)(op:Rat->Rat->Rat)(hj:∀(p q:Rat)(e:Int),Fits p->Fits q->FnW Tryz.prog g [.i e] [A0 (frR p),A0 (frR q)] [.i (kE (op p q) e)] (A0 (frR (kQ (op p q)))))(a b:List PcQ)(ha:okC a)(hb:okC b)(ha0:a≠[])(hb0:b≠[])(han:a.length<=200)(hbn:b.length<=200)
  (hu:Fz 93 [.sl (a.map PcQ.row)] (.b true)) (hv:Fz 93 [.sl (b.map PcQ.row)] (.b true)):Fz 246 [.sl (a.map PcQ.row),.sl (b.map PcQ.row),.fn (.func g) [] []] (A0l op a b):=by
 have hla:0<a.length:=a1i.2 ha0
 have hlb:0<b.length:=a1i.2 hb0
 have hlen:(a++b).length=a.length+b.length:=a0s
 have hcat:=Q9 [a,b] (by simp;omega) (by simp;omega) (by simp)
 simp only[a2g,a6o,a3v,List.flatten_nil,a1u]at hcat
 have hfit:=Ko a b ha hb
 have hts:∀q∈(a++b).map (·.f),Fits q:=fun q hq=>hfit q (by rw[An,F5];exact hq)
 have hsort:=Wv ((a++b).map (·.f)) hts (by rw[Ee];omega)
 have hmut:=fun l' hp hs=>Nr ((a++b).map (·.f)) l' hp hs (by rw[Ee];omega)
 have hT0:0<(An a b).length:=by
  obtain⟨x,hx⟩:∃x,x∈a:=⟨_,a4o hla⟩
  have:x.f∈An a b:=by rw[An,F5];exact a1d.2 ⟨x,a0p.2 (.inl hx),rfl⟩
  exact a8m this
 unfold A0l
 change ∀l' hp hs,FnMut _ _ 2 _ _ (An a b).length (Cp (An a b))at hmut
 generalize An a b=tms at hmut hT0 hfit⊢
 have hle:((a++b).map PcQ.row).length=(a++b).length:=a0e _
 have hT:=lmA tms frR
 skip
 refine Fo Tryz.func246 ?_
 repeat' first|refine WY ?_|refine Zb4 ?_|refine Dv 8 ?_|refine Dw 8 ?_|(apply p0v A8)|refine Zbc ?_|(apply Ords.one (i:=0);decide+kernel;exact rfl)|(apply Ords.one (i:=1);decide+kernel;exact rfl)|(apply Ords.one (i:=2);decide+kernel;exact rfl)|(apply Ords.one (i:=3);decide+kernel;exact rfl)|(apply Ords.one (i:=4);decide+kernel;exact rfl)|(apply Ords.one (i:=5);decide+kernel;exact rfl)|(apply Ords.one (i:=6);decide+kernel;exact rfl)|(apply Ords.one (i:=7);decide+kernel;exact rfl)|(apply Ords.one (i:=8);decide+kernel;exact rfl)|(apply Ords.one (i:=9);decide+kernel;exact rfl)|(apply p0a (i:=0) (j:=1);decide+kernel;exact rfl;exact rfl)|(apply p0a (i:=0) (j:=2);decide+kernel;exact rfl;exact rfl)|(apply p0a (i:=0) (j:=3);decide+kernel;exact rfl;exact rfl)|(apply p0a (i:=0) (j:=4);decide+kernel;exact rfl;exact rfl)|(apply p0a (i:=1) (j:=5);decide+kernel;exact rfl;exact rfl)|(apply p0a (i:=2) (j:=5);decide+kernel;exact rfl;exact rfl)|(apply p0a (i:=3) (j:=5);decide+kernel;exact rfl;exact rfl)|(apply p0a (i:=4) (j:=5);decide+kernel;exact rfl;exact rfl)|(apply p0a (i:=5) (j:=6);decide+kernel;exact rfl;exact rfl)|(apply p0a (i:=4) (j:=6);decide+kernel;exact rfl;exact rfl)|(apply p0a (i:=6) (j:=7);decide+kernel;exact rfl;exact rfl)|(apply p0a (i:=5) (j:=7);decide+kernel;exact rfl;exact rfl)|refine V ?_|refine W2 ?_ ?_<;>intro hc
 refine T.kill 0 ?_
 refine p0c (fun i=>i<=(a++b).length) (fun i=>(a++b).length-i) (fun i=>[(30,.i i),(8,rT 0 2 i),(29,.i ((a++b).map PcQ.row).length),(28,.sl ((a++b).map PcQ.row)),(0,.sl (a.map PcQ.row)),(1,.sl (b.map PcQ.row)),(2,.fn (.func g) [] [])]) (fun i=>[rB (fa (((a++b).map (·.f)).take i)) i]) 0 (a0k _) CV (.dead .nil) ?_
 intro i hi
 by_cases hlt:(i:Int)<(((a++b).map PcQ.row).length:Nat)
 ·obtain⟨x,hx⟩:∃x,(a++b)[i]?=some x:=⟨(a++b)[i]'(by omega),a0b _⟩
  have hb:((a++b).map PcQ.row)[((i:Nat):Int).toNat]?=some x.row:=by rw[a0q,a0d,hx];rfl
  have hxf:((a++b).map (·.f))[i]?=some x.f:=by rw[a0d,hx];rfl
  have hsn:=A52 _ i x.f hxf
  cases i with
  |zero=>
   repeat' first|refine WY ?_|refine Zb0 ?_|refine Zbw ?_|refine V ?_|refine W2 ?_ ?_<;>intro hc
   exact Next.go 1 (by omega) (by omega) CV (by rw[show(1:Nat)=0+1 from rfl,hsn];exact .live rfl .nil)
  |succ i=>
   repeat' first|refine WY ?_|refine Zb0 ?_|(apply p0h;(iterate 8 exact rfl);(rw[Vl,a0x,Ee];omega);exact A9 rfl;exact rfl;exact Aj _ _;simp only[a0j,a0m];omega;simp only[a0j,a0m];omega)|refine V ?_|refine W2 ?_ ?_<;>intro hc
   exact Next.go (i+1+1) (by omega) (by omega) (.cons (by rw[show(((i+1+1:Nat):Int))=((i+1:Nat):Int)+1 by omega];rfl) rfl CV) (by rw[hsn];exact .live (by rw[a2k,Iq];rfl) .nil)
 ·obtain rfl:i=(a++b).length:=by omega
  have hlt':¬((((a++b).map (·.f)).length:Nat):Int)<(((a++b).map PcQ.row).length:Nat):=by rw[Ee];omega
  rw[Gf (by omega),Ge (by omega),<-Ee,a1l]
  by_cases h2:(200:Int)<(tms.length:Nat)
  ·rw[if_pos (by omega)]
   repeat' first|refine W ?_|refine Zbb ?_|(apply p2q;exact rfl;exact rfl;exact hsort;exact rfl;rintro xs' ⟨l',rfl,hp,hs⟩)|(apply p3a (hmut _ hp hs);(iterate 5 exact rfl))|refine Zb7 ?_|refine V ?_|refine W2 ?_ ?_<;>intro hc
   exact D2 rfl rfl rfl
  ·rw[if_neg (by omega)]
   have h2':¬(200:Int)<((tms.map frR).length:Nat):=by omega
   repeat' first|refine W ?_|(refine T.freeze 8 rfl rfl (A2a tms) ?_)|(refine T.heat 1 [.i 0] rfl rfl ?_;intro k o)|refine Zbb ?_|(apply p2q;exact rfl;exact rfl;exact hsort;exact rfl;rintro xs' ⟨l',rfl,hp,hs⟩)|(apply p3a (hmut _ hp hs);(iterate 5 exact rfl))|refine V ?_|refine W2 ?_ ?_<;>intro hc
   refine T.kill 2 ?_
   refine p0c (fun i=>i<=tms.length) (fun i=>tms.length-i) (fun i=>[(51,.i i),(12,rT 2 8 i),(50,.i (tms.map frR).length),(49,.sl (tms.map frR)),(11,.ptr 1 0),(0,.sl (a.map PcQ.row)),(1,.sl (b.map PcQ.row)),(2,.fn (.func g) [] [])]) (fun i=>[.dead,.hot k o [.i (jEs op a b (tms.take i))],rB (Ae ((tms.take i).map (jP op a b))) i]) 0 (a0k _) CV (.dead (.hot (.dead .nil))) ?_
   intro i hi
   by_cases hlt:(i:Int)<((tms.map frR).length:Nat)
   ·obtain⟨t,ht⟩:∃t,tms[i]?=some t:=⟨tms[i]'(by omega),a0b _⟩
    have hft:=hfit t (a0a ht)
    have hb2:(tms.map frR)[((i:Nat):Int).toNat]?=some (frR t):=by rw[a0q,a0d,ht];rfl
    have hts1:tms.take (i+1)=tms.take i++[t]:=by rw[a0u,ht];rfl
    have hE:jEs op a b (tms.take (i+1))=jE op a b t (jEs op a b (tms.take i)):=by rw[hts1,jEs,a2o];rfl
    have hP:Ae ((tms.take (i+1)).map (jP op a b))=Ae ((tms.take i).map (jP op a b))++[.i t.num,.i t.den,.i (kQ (op (atP a t).a (atP b t).a)).num,.i (kQ (op (atP a t).a (atP b t).a)).den,.i (kQ (op (atP a t).b (atP b t).b)).num,.i (kQ (op (atP a t).b (atP b t).b)).den,.i (kQ (op (atP a t).c (atP b t).c)).num,.i (kQ (op (atP a t).c (atP b t).c)).den]:=by rw[hts1,a1f,Cg];rfl
    have hPl:((tms.take i).map (jP op a b)).length=i:=by rw[a0e,a0x];omega
    unfold jE at hE
    have ox:=Lq a t ha ha0 hft
    have oy:=Lq b t hb hb0 hft
    generalize jEs op a b (tms.take i)=e0 at hE⊢
    have c1:=Wx a t e0 ha ha0 (by omega) hft
    generalize Eu a t e0=e1 at hE c1
    have c2:=Wx b t e1 hb hb0 (by omega) hft
    generalize Eu b t e1=e2 at hE c2
    generalize atP a t=x at hE hP c1 ox
    generalize atP b t=y at hE hP c2 oy
    have c3:=hj x.a y.a e2 ox.a oy.a
    have f3:=Dj (op x.a y.a)
    generalize kE (op x.a y.a) e2=e3 at hE c3
    generalize kQ (op x.a y.a)=p3 at hP c3 f3
    have c4:=hj x.b y.b e3 ox.b oy.b
    generalize kE (op x.b y.b) e3=e4 at hE c4
    generalize kQ (op x.b y.b)=p4 at hP c4
    have c5:=hj x.c y.c e4 ox.c oy.c
    generalize kE (op x.c y.c) e4=e5 at hE c5
    generalize kQ (op x.c y.c)=p5 at hP c5
    cases i with
    |zero=>
     repeat' first|refine WY ?_|refine Zbl ?_|refine Zbm ?_|refine Zb9 ?_|refine Zba ?_|refine Zb3 c1 ?_|refine Zb1 c1 ?_|refine Zb3 c2 ?_|refine Zb1 c2 ?_|refine Zb3 c3 ?_|refine Zb1 c3 ?_|refine Zb3 c4 ?_|refine Zb1 c4 ?_|refine Zb3 c5 ?_|refine Zb1 c5 ?_|refine Zb0 ?_|refine Zbk ?_|refine Dv 25 ?_|refine Dw 25 ?_|refine Da ?_|refine V ?_|refine W2 ?_ ?_<;>intro hc
     exact Next.go 1 (by omega) (by omega) CV (by rw[show(1:Nat)=0+1 from rfl,hP,hE];exact .dead (.hot (.live rfl .nil)))
    |succ i=>
     repeat' first|refine WY ?_|refine Zbl ?_|refine Zbm ?_|refine Zb9 ?_|refine Zba ?_|refine Zb3 c1 ?_|refine Zb1 c1 ?_|refine Zb3 c2 ?_|refine Zb1 c2 ?_|refine Zb3 c3 ?_|refine Zb1 c3 ?_|refine Zb3 c4 ?_|refine Zb1 c4 ?_|refine Zb3 c5 ?_|refine Zb1 c5 ?_|refine Zb0 ?_|(apply p0h;(iterate 8 exact rfl);(rw[Az,hPl]);exact A9 rfl;exact rfl;exact Aj _ _;simp only[a0j,a0m];omega;simp only[a0j,a0m];omega)|refine Dv 25 ?_|refine Dw 25 ?_|refine Da ?_|refine V ?_|refine W2 ?_ ?_<;>intro hc
     exact Next.go (i+1+1) (by omega) (by omega) (.cons (by rw[show(((i+1+1:Nat):Int))=((i+1:Nat):Int)+1 by omega];rfl) rfl CV) (by rw[hP,hE];exact .dead (.hot (.live (by rw[a2k,Bn];rfl) .nil)))
   ·obtain rfl:i=tms.length:=by omega
    rw[Gf hT0,Ge hT0,a1l]
    have hPl:(tms.map (jP op a b)).length=tms.length:=a0e _
    have hown:=K0 (tms.map (jP op a b))
    rw[hPl]at hown
    generalize jEs op a b tms=e
    by_cases he:e=0
    ·rw[if_pos he]
     repeat' first|refine WY ?_|(refine T.freeze 12 rfl rfl hown ?_)|refine Zbl ?_|refine Zbm ?_|refine Zb9 ?_|refine Zba ?_|refine V ?_|refine W2 ?_ ?_<;>intro hc
     exact D2 rfl rfl rfl
    ·rw[if_neg he]
     repeat' first|refine WY ?_|(refine T.cool 1 rfl ?_)|refine Zbl ?_|refine Zbm ?_|refine Zb9 ?_|refine Zba ?_|refine Dv 6 ?_|refine Dw 6 ?_|refine Dv 4 ?_|refine Dw 4 ?_|(apply p0v A8)|refine Zbc ?_|(apply Ords.one (i:=0);decide+kernel;exact rfl)|(apply Ords.one (i:=1);decide+kernel;exact rfl)|(apply Ords.one (i:=2);decide+kernel;exact rfl)|(apply Ords.one (i:=3);decide+kernel;exact rfl)|(apply Ords.one (i:=4);decide+kernel;exact rfl)|(apply Ords.one (i:=5);decide+kernel;exact rfl)|(apply Ords.one (i:=6);decide+kernel;exact rfl)|(apply Ords.one (i:=7);decide+kernel;exact rfl)|(apply Ords.one (i:=8);decide+kernel;exact rfl)|(apply Ords.one (i:=9);decide+kernel;exact rfl)|(apply p0a (i:=0) (j:=1);decide+kernel;exact rfl;exact rfl)|(apply p0a (i:=0) (j:=2);decide+kernel;exact rfl;exact rfl)|(apply p0a (i:=0) (j:=3);decide+kernel;exact rfl;exact rfl)|(apply p0a (i:=0) (j:=4);decide+kernel;exact rfl;exact rfl)|(apply p0a (i:=1) (j:=5);decide+kernel;exact rfl;exact rfl)|(apply p0a (i:=2) (j:=5);decide+kernel;exact rfl;exact rfl)|(apply p0a (i:=3) (j:=5);decide+kernel;exact rfl;exact rfl)|(apply p0a (i:=4) (j:=5);decide+kernel;exact rfl;exact rfl)|(apply p0a (i:=5) (j:=6);decide+kernel;exact rfl;exact rfl)|(apply p0a (i:=4) (j:=6);decide+kernel;exact rfl;exact rfl)|(apply p0a (i:=6) (j:=7);decide+kernel;exact rfl;exact rfl)|(apply p0a (i:=5) (j:=7);decide+kernel;exact rfl;exact rfl)|refine Zb7 ?_|refine V ?_|refine W2 ?_ ?_<;>intro hc
     all_goals exact D2 rfl rfl rfl
def F4(op:Rat->Rat->Rat)(a b:List PcQ):List PcQ:=if 200<(An a b).length then[]else if jEs op a b (An a b)=0 then(An a b).map (jP op a b)else[]
def Cr(op:Rat->Rat->Rat)(a b:List PcQ):Int:=if 200<(An a b).length then 4 else jEs op a b (An a b)
theorem Adk(op:Rat->Rat->Rat)(a b:List PcQ):A0l op a b=.tup [.sl ((F4 op a b).map PcQ.row),.i (Cr op a b)]:=by
 unfold A0l F4 Cr
 split
 ·rfl
 ·split
  ·rename_i h;rw[h]
  ·rfl
theorem Agr(a b:List PcQ)(ha:okC a)(hb:okC b)(ha0:a≠[])(hb0:b≠[])(han:a.length<=200)(hbn:b.length<=200)
  (hu:Fz 93 [.sl (a.map PcQ.row)] (.b true)) (hv:Fz 93 [.sl (b.map PcQ.row)] (.b true)):Fz 178 [.sl (a.map PcQ.row),.sl (b.map PcQ.row)] (.tup [.sl ((F4 (· - ·) a b).map PcQ.row),.i (Cr (· - ·) a b)]):=by
 have c:=A7s 148 (· - ·) (fun p q e hp hq=>T2 p q e hp hq) a b ha hb ha0 hb0 han hbn hu hv
 rw[Adk]at c
 refine Fo Tryz.func178 ?_
 repeat' first|refine WX ?_|refine W2 ?_ ?_<;>intro hc
 exact D2 rfl rfl rfl
theorem p1v{n:Nat}{cs cs':List AV}{H H':AH}(h:cs=cs')(hb:cs'.all (AV.under n)=true)(c:CovH n H H'):CovH n (.live cs::H) (.live cs'::H'):=by subst h;exact .live hb c
theorem Nf:∀(l:List PcQ)(i:Nat)(x:PcQ),l[i]?=some x->((Ae l).drop (i*8)).take 2=[.i x.f.num,.i x.f.den]
 |[],i,x,h=>by simp at h
 |y::l,0,x,h=>by
  simp only[a2f,a0h]at h
  subst h
  rfl
 |y::l,i+1,x,h=>by
  rw[C3,show(i+1)*8=(y.row.map AV.lf).length+i*8 by simp[PcQ.row];omega,b0p]
  exact Nf l i x (by simpa using h)
theorem Wm(n m:Int):Fz 78 [.i n,.i m] (.b (decide (0<=n/\n<=m))):=by
 refine Fo Tryz.func78 ?_
 repeat' first|refine WX ?_|refine W2 ?_ ?_<;>intro hc
 all_goals exact Dd rfl rfl (by simp[*])
theorem Uo(c:SheetR)(n:ByteArray)(hs:c.cues.length<=9223372036854775807):Fz 79 [A0 c.row,.s n] (.i (Bl c.cues n)):=by
 have hle:=lmA c.cues CueR.row
 refine Fo Tryz.func79 ?_
 repeat' first|refine WX ?_|refine W2 ?_ ?_<;>intro hc
 refine p0c (fun k=>k<=c.cues.length/\∀s∈c.cues.take k,¬s.name=n) (fun k=>c.cues.length-k) (fun k=>[(5,.i k),(2,.ptr 0 0),(1,.s n)]) (fun _=>[.live (c.row.map .lf)]) 0 ⟨a0k _,by simp⟩ CV (.live rfl .nil) ?_
 rintro k ⟨hk,hno⟩
 by_cases hlt:k<c.cues.length
 ·have h1:(k:Int)<((c.cues.map CueR.row).length:Nat):=by omega
  obtain⟨x,hx⟩:=A2 hlt
  have hb:=A3 (R:=CueR.row) hx
  have hsn:=Ad hx
  repeat' first|refine WY ?_|(apply p0u A8 (by kernel_rfl))|refine V ?_|refine W2 ?_ ?_<;>intro hc
  all_goals first
   |exact Next.go (k+1) ⟨by omega,by rw[hsn];intro y hy;rcases a0p.1 hy with hy|hy;exact hno y hy;obtain rfl:y=x:=(by simpa using hy);assumption⟩ (by omega) CV (.live rfl .nil)
   |exact Dd rfl rfl (by rw[Bl,Fk hx hno (by assumption)])
 ·have h1:¬(k:Int)<((c.cues.map CueR.row).length:Nat):=by omega
  repeat' first|refine WX ?_|refine W2 ?_ ?_<;>intro hc
  exact Dd rfl rfl (by rw[Bl,Ud hno (by omega)])
theorem Wk(c:SheetR)(m:Nat)(hs:c.cues.length<=60)(hm:m<=c.cues.length):Fz 163 [A0 c.row,.i m] (.i (B6 (c.cues.take m):Nat)):=by
 have hle:=lmA c.cues CueR.row
 refine Fo Tryz.func163 ?_
 repeat' first|refine WX ?_|refine W2 ?_ ?_<;>intro hc
 refine p0c (fun k=>k<=m) (fun k=>m-k) (fun k=>[(6,.i k),(5,.i (B6 (c.cues.take k):Nat)),(2,.ptr 0 0),(1,.i m)]) (fun _=>[.live (c.row.map .lf)]) 0 (a0k _) CV (.live rfl .nil) ?_
 intro k hk
 by_cases hlt:k<m
 ·have h1:(k:Int)<(m:Nat):=by omega
  obtain⟨q,hq⟩:=A2 (l:=c.cues) (k:=k) (by omega)
  have hb:=A3 (R:=CueR.row) hq
  have hm60:B6 (c.cues.take k)<=60:=a2d (Iv _) (by rw[a0x];omega)
  repeat' first|refine WX ?_|refine W2 ?_ ?_<;>intro hc
  all_goals first
   |exact Next.go (k+1) (by omega) (by omega) (.cons rfl rfl (.cons (by rw[H1 hq (by assumption)];rfl) rfl CV)) (.live rfl .nil)
   |exact Next.go (k+1) (by omega) (by omega) (.cons rfl rfl (.cons (by rw[Jx hq (by assumption)];rfl) rfl CV)) (.live rfl .nil)
 ·have h1:¬(k:Int)<(m:Nat):=by omega
  obtain rfl:k=m:=by omega
  repeat' first|refine WX ?_|refine W2 ?_ ?_<;>intro hc
  all_goals exact Dd rfl rfl rfl
theorem Abd(c:SheetR)(h60:c.cues.length<=60)(L G:List Int)(hL:L.length<=1000)(hG:G.length<=4611686018427387904):Fz 161 [A0 c.row,.sl (L.map A1),.sl (G.map A1)] (.i (stE c.cues L G)):=by
 have hle:=lmA c.cues CueR.row
 have hll:=lmA L A1
 have hlg:=lmA G A1
 have cm:=Wk c (c.cues.map CueR.row).length h60 (by omega)
 rw[show c.cues.take (c.cues.map CueR.row).length=c.cues by rw[hle,a1l]]at cm
 unfold stE
 by_cases e1:L.length≠c.cues.length\/G.length≠B6 c.cues
 ·rw[if_pos e1]
  refine Fo Tryz.func161 ?_
  repeat' first|refine WX ?_|refine W2 ?_ ?_<;>intro hc
  all_goals first
   |exact Dd rfl rfl rfl
   |(exfalso;omega)
 ·rw[if_neg e1]
  have g1:((L.map A1).length:Int)=((c.cues.map CueR.row).length:Nat):=by omega
  have g2:((G.map A1).length:Int)=(B6 c.cues:Nat):=by omega
  have n1:¬¬((L.map A1).length:Int)=((c.cues.map CueR.row).length:Nat):=fun k=>k g1
  have n2:¬¬((G.map A1).length:Int)=(B6 c.cues:Nat):=fun k=>k g2
  refine Fo Tryz.func161 ?_
  repeat' first|refine WX ?_|refine W2 ?_ ?_<;>intro hc
  refine p0c (fun k=>k<=L.length/\∀x∈L.take k,¬Ep x) (fun k=>L.length-k) (fun k=>[(7,.i k),(1,.sl (L.map A1)),(2,.sl (G.map A1))]) (fun _=>[]) 0 ⟨a0k _,by simp⟩ CV .nil ?_
  rintro k ⟨hk,hno⟩
  by_cases hlt:k<L.length
  ·have h1:(k:Int)<((L.map A1).length:Nat):=by omega
   obtain⟨x,hx⟩:=A2 hlt
   have hb:=A3 (R:=A1) hx
   have hsn:=Ad hx
   have cw:=Wm x 2147483648
   by_cases hw:Ep x
   ·rw[decide_eq_false hw]at cw
    rw[if_pos (.inl ⟨x,a0a hx,hw⟩)]
    repeat' first|refine WX ?_|refine W2 ?_ ?_<;>intro hc
    all_goals exact Dd rfl rfl rfl
   ·rw[decide_eq_true (a3h.1 hw)]at cw
    repeat' first|refine WX ?_|refine W2 ?_ ?_<;>intro hc
    all_goals exact Next.go (k+1) ⟨by omega,by rw[hsn];intro y hy;rcases a0p.1 hy with hy|hy;exact hno y hy;obtain rfl:y=x:=(by simpa using hy);assumption⟩ (by omega) CV .nil
  have h1:¬(k:Int)<((L.map A1).length:Nat):=by omega
  have hnoL:¬Et L:=fun⟨x,hx,hw⟩=>hno x (by rw[a0g (by omega)];exact hx) hw
  repeat' first|refine WX ?_|refine W2 ?_ ?_<;>intro hc
  refine p0c (fun k=>k<=G.length/\∀x∈G.take k,¬Ep x) (fun k=>G.length-k) (fun k=>[(8,.i k),(2,.sl (G.map A1))]) (fun _=>[]) 0 ⟨a0k _,by simp⟩ CV .nil ?_
  clear hno h1 hlt hk
  clear k
  rintro k ⟨hk,hno⟩
  by_cases hlt:k<G.length
  ·have h1:(k:Int)<((G.map A1).length:Nat):=by omega
   obtain⟨x,hx⟩:=A2 hlt
   have hb:=A3 (R:=A1) hx
   have hsn:=Ad hx
   have cw:=Wm x 2147483648
   by_cases hw:Ep x
   ·rw[decide_eq_false hw]at cw
    rw[if_pos (.inr ⟨x,a0a hx,hw⟩)]
    repeat' first|refine WX ?_|refine W2 ?_ ?_<;>intro hc
    all_goals exact Dd rfl rfl rfl
   ·rw[decide_eq_true (a3h.1 hw)]at cw
    repeat' first|refine WX ?_|refine W2 ?_ ?_<;>intro hc
    all_goals exact Next.go (k+1) ⟨by omega,by rw[hsn];intro y hy;rcases a0p.1 hy with hy|hy;exact hno y hy;obtain rfl:y=x:=(by simpa using hy);assumption⟩ (by omega) CV .nil
  ·have h1:¬(k:Int)<((G.map A1).length:Nat):=by omega
   rw[if_neg (by
    rintro(hw|⟨x,hx,hw⟩)
    ·exact hnoL hw
    ·exact hno x (by rw[a0g (by omega)];exact hx) hw)]
   repeat' first|refine WX ?_|refine W2 ?_ ?_<;>intro hc
   all_goals exact Dd rfl rfl rfl
theorem S9{n k i:Nat}(hi:i<n):(E9 n k)[i]?=some (decide (i<k))\/n<k:=by
 by_cases h:i<k
 ·rcases a0y n k with h2|h2
  ·exact .inr h2
  ·rw[decide_eq_true h];exact .inl (Ic h)
 ·rw[decide_eq_false h]
  refine .inl ?_
  unfold E9
  rw[a1h (by rw[a2z];omega),a2z,a3z,if_pos (by omega)]
theorem Abe(c:SheetR)(lk:LkP c.cues)(h60:c.cues.length<=60):Fz 162 [A0 c.row] (.tup [.sl ((upL c.cues.length).map A1),.b true]):=by
 have hle:=lmA c.cues CueR.row
 have hd0:List.replicate (c.cues.map CueR.row).length (AV.val (.bool false))=bA (E9 c.cues.length 0):=by rw[hle];simp[E9,bA]
 refine Fo Tryz.func162 ?_
 repeat' first|refine W ?_|(apply p3c (n:=(c.cues.map CueR.row).length);(iterate 3 exact rfl);omega;exact rfl;exact rfl)|refine V ?_|refine W2 ?_ ?_<;>intro hc
 rw[hd0]
 refine T.kill 2 ?_
 refine p0c (fun k=>k<=c.cues.length) (fun k=>c.cues.length+1-k) (fun k=>[(1,.ptr 0 0),(4,.own 1 0 (c.cues.map CueR.row).length 1),(5,rT 2 1 k)]) (fun k=>[.live (c.row.map .lf),.live (bA (E9 c.cues.length k)),rB (A7 (upL k)) k]) 0 (a0k _) CV (.live rfl (.live (Bp _ _) (.dead .nil))) ?_
 intro k hk
 by_cases hkn:k<c.cues.length
 ·have hdl:=A17 (n:=c.cues.length) (k:=k) (by omega)
  have h0n:(0:Int)<((c.cues.map CueR.row).length:Nat):=by omega
  have hkl:(k:Int)<((c.cues.map CueR.row).length:Nat):=by omega
  have hul:(A7 (upL k)).length=k*1:=by rw[C8,J2,a4g]
  rcases a3e k with h0|hpos
  ·rw[show rT 2 1 k=.val (.slice none 0 0) by rw[h0];rfl,show rB (A7 (upL k)) k=.dead by rw[h0];rfl]
   repeat' first|refine WY ?_|(apply p6f;exact rfl;exact rfl)|refine V ?_|refine W2 ?_ ?_<;>intro hc
   refine p0c (fun s:Int×Int=> -1<=s.1/\s.1<c.cues.length/\(s.1<k->s.2=k)) (fun s=>(s.1+1).toNat) (fun s=>[(7,.i s.1),(6,.i s.2),(1,.ptr 0 0),(4,.own 1 0 (c.cues.map CueR.row).length 1),(5,.val (.slice none 0 0))]) (fun _=>[.live (c.row.map .lf),.live (bA (E9 c.cues.length k)),.dead]) (((c.cues.map CueR.row).length:Int)-1,-1) ⟨by dsimp only;omega,by dsimp only;omega,fun h=>by dsimp only at h;exfalso;omega⟩ CW (.live rfl (.live (Bp _ _) (.dead .nil))) ?_
   rintro⟨i,x⟩ ⟨hi1,hi2,hx⟩
   dsimp only at hi1 hi2 hx
   by_cases hi0:0<=i
   ·obtain⟨q,hq⟩:=A2 (l:=c.cues) (k:=i.toNat) (by omega)
    have hb:(c.cues.map CueR.row)[i.toNat]?=some q.row:=by rw[a0d,hq];rfl
    obtain⟨_,_,_,_,q5,q6⟩:=lk i.toNat q hq
    have cf:=Uo c q.after (by omega)
    by_cases hik:i<k
    ·have hd1:=J8 (Ic (n:=c.cues.length) (k:=k) (j:=i.toNat) (by omega))
     repeat' first|refine WY ?_|refine Da ?_|(apply S.indexO (o2:=i.toNat);(iterate 4 exact rfl);omega;omega)|refine Zb8 hd1 ?_|refine V ?_|refine W2 ?_ ?_<;>intro hc
     all_goals exact Next.go (i-1,x) ⟨by dsimp only;omega,by dsimp only;omega,fun _=>hx hik⟩ (by dsimp only;omega) CW (.live rfl (.live (Bp _ _) (.dead .nil)))
    ·have hd1:(bA (E9 c.cues.length k))[i.toNat]?=some (.val (.bool false)):=J8 ((S9 (n:=c.cues.length) (k:=k) (i:=i.toNat) (by omega)).resolve_right (by omega)|>.trans (by rw[decide_eq_false (by omega)]))
     by_cases ha:q.after=⟨#[]⟩
     ·repeat' first|refine WY ?_|refine Da ?_|(apply S.indexO (o2:=i.toNat);(iterate 4 exact rfl);omega;omega)|refine Zb8 hd1 ?_|refine V ?_|refine W2 ?_ ?_<;>intro hc
      all_goals exact Next.go (i-1,i) ⟨by dsimp only;omega,by dsimp only;omega,fun h=>by dsimp only at h⊢;omega⟩ (by dsimp only;omega) CW (.live rfl (.live (Bp _ _) (.dead .nil)))
     ·obtain⟨a1,a2⟩:=q6 (fun e=>ha (q5 e))
      rw[a1]at cf
      generalize D6 c.cues q=z at*
      by_cases hz:z<k
      ·try(exfalso;omega)
       all_goals have hd2:=J8 (Ic (n:=c.cues.length) hz)
       repeat' first|refine WY ?_|refine Da ?_|(apply S.indexO (o2:=z);(iterate 4 exact rfl);omega;omega)|(apply S.indexO (o2:=i.toNat);(iterate 4 exact rfl);omega;omega)|refine Zb8 hd1 ?_|refine Zb8 hd2 ?_|refine V ?_|refine W2 ?_ ?_<;>intro hc
       all_goals exact Next.go (i-1,i) ⟨by dsimp only;omega,by dsimp only;omega,fun h=>by dsimp only at h⊢;omega⟩ (by dsimp only;omega) CW (.live rfl (.live (Bp _ _) (.dead .nil)))
      ·have hd2:(bA (E9 c.cues.length k))[z]?=some (.val (.bool false)):=J8 ((S9 (n:=c.cues.length) (k:=k) (i:=z) (by omega)).resolve_right (by omega)|>.trans (by rw[decide_eq_false hz]))
       repeat' first|refine WY ?_|refine Da ?_|(apply S.indexO (o2:=z);(iterate 4 exact rfl);omega;omega)|(apply S.indexO (o2:=i.toNat);(iterate 4 exact rfl);omega;omega)|refine Zb8 hd1 ?_|refine Zb8 hd2 ?_|refine V ?_|refine W2 ?_ ?_<;>intro hc
       all_goals exact Next.go (i-1,x) ⟨by dsimp only;omega,by dsimp only;omega,fun h=>by dsimp only at h⊢;exfalso;omega⟩ (by dsimp only;omega) CW (.live rfl (.live (Bp _ _) (.dead .nil)))
   obtain rfl:x=(k:Int):=hx (by omega)
   have hneg:¬(k:Int)<0:=by omega
   repeat' first|refine WY ?_|(apply S.indexO (o2:=k);(iterate 4 exact rfl);omega;omega)|(apply p2i;(iterate 3 exact rfl);omega)|refine Zb0 ?_|(apply p0q 2 (rows:=[]);(iterate 4 exact rfl);exact Nq c.row _ .dead rfl;(iterate 3 exact rfl);exact A9 rfl;exact rfl;exact a0c rfl;exact a0c rfl)|refine V ?_|refine W2 ?_ ?_<;>intro hc
   all_goals exact Next.go (k+1) (by omega) (by omega) (.cons rfl rfl (.cons rfl rfl (.cons (by rw[h0];rfl) rfl .nil))) (by rw[<-Jr hkn,h0];exact .live rfl (.live (Bp _ _) (.live rfl .nil)))
  ·rw[Gf hpos,Ge hpos]
   have hus:A7 (upL (k+1))=A7 (upL k)++([A1 (k:Int)].flatten).map AV.lf:=by rw[V2];simp[A7]
   repeat' first|refine WY ?_|refine Zbb ?_|refine V ?_|refine W2 ?_ ?_<;>intro hc
   refine p0c (fun s:Int×Int=> -1<=s.1/\s.1<c.cues.length/\(s.1<k->s.2=k)) (fun s=>(s.1+1).toNat) (fun s=>[(7,.i s.1),(6,.i s.2),(1,.ptr 0 0),(4,.own 1 0 (c.cues.map CueR.row).length 1),(5,.own 2 0 k 1)]) (fun _=>[.live (c.row.map .lf),.live (bA (E9 c.cues.length k)),.live (A7 (upL k))]) (((c.cues.map CueR.row).length:Int)-1,-1) ⟨by dsimp only;omega,by dsimp only;omega,fun h=>by dsimp only at h;exfalso;omega⟩ CW (.live rfl (.live (Bp _ _) (.live (Ac _ _) .nil))) ?_
   rintro⟨i,x⟩ ⟨hi1,hi2,hx⟩
   dsimp only at hi1 hi2 hx
   by_cases hi0:0<=i
   ·obtain⟨q,hq⟩:=A2 (l:=c.cues) (k:=i.toNat) (by omega)
    have hb:(c.cues.map CueR.row)[i.toNat]?=some q.row:=by rw[a0d,hq];rfl
    obtain⟨_,_,_,_,q5,q6⟩:=lk i.toNat q hq
    have cf:=Uo c q.after (by omega)
    by_cases hik:i<k
    ·have hd1:=J8 (Ic (n:=c.cues.length) (k:=k) (j:=i.toNat) (by omega))
     repeat' first|refine WY ?_|refine Da ?_|(apply S.indexO (o2:=i.toNat);(iterate 4 exact rfl);omega;omega)|refine Zb8 hd1 ?_|refine V ?_|refine W2 ?_ ?_<;>intro hc
     all_goals exact Next.go (i-1,x) ⟨by dsimp only;omega,by dsimp only;omega,fun _=>hx hik⟩ (by dsimp only;omega) CW (.live rfl (.live (Bp _ _) (.live (Ac _ _) .nil)))
    ·have hd1:(bA (E9 c.cues.length k))[i.toNat]?=some (.val (.bool false)):=J8 ((S9 (n:=c.cues.length) (k:=k) (i:=i.toNat) (by omega)).resolve_right (by omega)|>.trans (by rw[decide_eq_false (by omega)]))
     by_cases ha:q.after=⟨#[]⟩
     ·repeat' first|refine WY ?_|refine Da ?_|(apply S.indexO (o2:=i.toNat);(iterate 4 exact rfl);omega;omega)|refine Zb8 hd1 ?_|refine V ?_|refine W2 ?_ ?_<;>intro hc
      all_goals exact Next.go (i-1,i) ⟨by dsimp only;omega,by dsimp only;omega,fun h=>by dsimp only at h⊢;omega⟩ (by dsimp only;omega) CW (.live rfl (.live (Bp _ _) (.live (Ac _ _) .nil)))
     ·obtain⟨a1,a2⟩:=q6 (fun e=>ha (q5 e))
      rw[a1]at cf
      generalize D6 c.cues q=z at*
      by_cases hz:z<k
      ·try(exfalso;omega)
       all_goals have hd2:=J8 (Ic (n:=c.cues.length) hz)
       repeat' first|refine WY ?_|refine Da ?_|(apply S.indexO (o2:=z);(iterate 4 exact rfl);omega;omega)|(apply S.indexO (o2:=i.toNat);(iterate 4 exact rfl);omega;omega)|refine Zb8 hd1 ?_|refine Zb8 hd2 ?_|refine V ?_|refine W2 ?_ ?_<;>intro hc
       all_goals exact Next.go (i-1,i) ⟨by dsimp only;omega,by dsimp only;omega,fun h=>by dsimp only at h⊢;omega⟩ (by dsimp only;omega) CW (.live rfl (.live (Bp _ _) (.live (Ac _ _) .nil)))
      ·have hd2:(bA (E9 c.cues.length k))[z]?=some (.val (.bool false)):=J8 ((S9 (n:=c.cues.length) (k:=k) (i:=z) (by omega)).resolve_right (by omega)|>.trans (by rw[decide_eq_false hz]))
       repeat' first|refine WY ?_|refine Da ?_|(apply S.indexO (o2:=z);(iterate 4 exact rfl);omega;omega)|(apply S.indexO (o2:=i.toNat);(iterate 4 exact rfl);omega;omega)|refine Zb8 hd1 ?_|refine Zb8 hd2 ?_|refine V ?_|refine W2 ?_ ?_<;>intro hc
       all_goals exact Next.go (i-1,x) ⟨by dsimp only;omega,by dsimp only;omega,fun h=>by dsimp only at h⊢;exfalso;omega⟩ (by dsimp only;omega) CW (.live rfl (.live (Bp _ _) (.live (Ac _ _) .nil)))
   obtain rfl:x=(k:Int):=hx (by omega)
   have hneg:¬(k:Int)<0:=by omega
   repeat' first|refine WY ?_|(apply S.indexO (o2:=k);(iterate 4 exact rfl);omega;omega)|(apply p2i;(iterate 3 exact rfl);omega)|refine Zb0 ?_|(apply p0h;(iterate 4 exact rfl);exact Nq c.row _ (.live _) rfl;(iterate 3 exact rfl);exact hul;exact A9 rfl;exact rfl;exact Aj _ _;simp only[a0j,a0m];omega;simp only[a0j,a0m];omega)|refine V ?_|refine W2 ?_ ?_<;>intro hc
   all_goals exact Next.go (k+1) (by omega) (by omega) CV (by rw[<-Jr hkn];show CovH _ _ [_,_,.live (A7 (upL (k+1)))];rw[hus];exact .live rfl (.live (Bp _ _) (.live (by rw[<-a1f];exact Ac _ _) .nil)))
 ·obtain rfl:k=c.cues.length:=by omega
  refine p2d 5 2 (rows:=(upL c.cues.length).map A1) (Cd _) (by rw[a0e,J2]) rfl rfl ?_
  have h1:¬(((upL c.cues.length).map A1).length:Int)<((c.cues.map CueR.row).length:Nat):=by rw[a0e,J2];omega
  generalize upL c.cues.length=U at*
  repeat' first|refine WX ?_|refine W2 ?_ ?_<;>intro hc
  all_goals exact D2 rfl rfl rfl
def zS(l:List CueR)(L G:List Int)(k:Nat):List Int:=stK l L G k++List.replicate (l.length-k) 0
theorem Ais(l:List CueR)(L G:List Int){k:Nat}(h:k<=l.length):(zS l L G k).length=l.length:=by
 unfold zS
 rw[a0s,Dk,a2z];omega
theorem Ait(l:List CueR)(L G:List Int){k:Nat}(h:k<l.length):(zS l L G k).set k (stV l L G (stK l L G k) k)=zS l L G (k+1):=by
 unfold zS
 rw[show l.length-k=(l.length-(k+1))+1 by omega,a6l,Sy _ _ _ _ (Dk l L G k),stK,a3i];rfl
theorem Aj5{l:List CueR}{L G:List Int}{j k:Nat}(h:j<k):(zS l L G k)[j]?=some ((stK l L G k).getD j 0):=by
 unfold zS
 rw[a1k (by rw[Dk];exact h),T0 l L G h,a0i,T0 l L G h];rfl
theorem Ahi(l:List CueR)(L G:List Int):zS l L G l.length=stK l L G l.length:=by unfold zS;simp
theorem Af5{l:List Int}{k:Nat}{x y:Int}:(l.set k x).set k y=l.set k y:=List.set_set ..
theorem Wl(c:SheetR)(lk:LkP c.cues)(h60:c.cues.length<=60)(L G:List Int)(hL:L.length<=1000)(hG:G.length<=4611686018427387904):Fz 77 [A0 c.row,.sl (L.map A1),.sl (G.map A1)] (.tup [.sl ((srL c.cues L G).map A1),.i (stE c.cues L G)]):=by
 have cg:=Abd c h60 L G hL hG
 have co:=Abe c lk h60
 have hle:=lmA c.cues CueR.row
 have hlu:((upL c.cues.length).map A1).length=c.cues.length:=by rw[a0e,J2]
 unfold srL
 by_cases e0:stE c.cues L G=0
 ·rw[if_pos e0]
  rw[e0]at cg⊢
  have hEq:¬(L.length≠c.cues.length\/G.length≠B6 c.cues)/\¬(Et L\/Et G):=by
   unfold stE at e0
   split at e0
   ·cases e0
   ·split at e0
    ·cases e0
    ·exact⟨by assumption,by assumption⟩
  obtain⟨e1,e2⟩:=hEq
  have e3:¬Et L:=fun k=>e2 (.inl k)
  have e4:¬Et G:=fun k=>e2 (.inr k)
  have hrep:List.replicate (c.cues.map CueR.row).length (AV.val (.int .i64 0))=iA (zS c.cues L G 0):=by rw[hle];simp[zS,stK,iA]
  refine Fo Tryz.func77 ?_
  repeat' first|refine WY ?_|(apply p3c (n:=(c.cues.map CueR.row).length);(iterate 3 exact rfl);omega;exact rfl;exact rfl)|refine V ?_|refine W2 ?_ ?_<;>intro hc
  rw[hrep]
  refine p0c (fun k=>k<=c.cues.length) (fun k=>c.cues.length-k) (fun k=>[(12,.i k),(9,.sl ((upL c.cues.length).map A1)),(11,.own 1 0 (c.cues.map CueR.row).length 1),(3,.ptr 0 0),(1,.sl (L.map A1)),(2,.sl (G.map A1))]) (fun k=>[.live (c.row.map .lf),.live (iA (zS c.cues L G k))]) 0 (a0k _) CW (.live rfl (.live (El _ _) .nil)) ?_
  intro k hk
  by_cases hlt:k<c.cues.length
  ·have h1:(k:Int)<(((upL c.cues.length).map A1).length:Nat):=by omega
   obtain⟨q,hq⟩:=A2 hlt
   have hb:=A3 (R:=CueR.row) hq
   have hbu:=A3 (R:=A1) (Acn hlt)
   have hfl:=Ais c.cues L G hk
   obtain⟨_,_,q3,q4,_,q6⟩:=lk k q hq
   have hset:=Ait c.cues L G hlt
   have hbd:=Nc lk e3 e4 k
   by_cases hm:q.link=1
   ·have hml:=A5l hq hm
    have hmg:B6 (c.cues.take k)<G.length:=by omega
    have hml60:B6 c.cues<=60:=a2d (Iv _) h60
    obtain⟨g,hg⟩:=A2 hmg
    have hbg:=A3 (R:=A1) hg
    have hgD:G.getD (B6 (c.cues.take k)) 0=g:=by rw[a0i,hg];rfl
    have hgr:=G3 e4 (B6 (c.cues.take k))
    rw[hgD]at hgr
    have hv:stV c.cues L G (stK c.cues L G k) k=g+q.delay:=by unfold stV;rw[hq];simp only[hm,if_true];rw[hgD]
    rw[hv]at hset
    have cm:=Wk c k h60 hk
    generalize B6 (c.cues.take k)=mk at*
    repeat' first|refine WY ?_|refine Dw 12 ?_|refine Dv 12 ?_|(apply S.indexO (o2:=k);(iterate 4 exact rfl);omega;omega)|(apply p2j;(iterate 3 exact rfl);first|omega|(rw[a6a];omega))|refine V ?_|refine W2 ?_ ?_<;>intro hc
    all_goals exact Next.go (k+1) (by omega) (by omega) CW (by rw[<-hset];exact .live rfl (.live (El _ _) .nil))
   ·obtain⟨a1,a2⟩:=q6 hm
    have cf:=Uo c q.after (by omega)
    rw[a1]at cf
    have hz:=hbd _ a2
    have hat:=A0k (Aj5 (l:=c.cues) (L:=L) (G:=G) a2)
    have hLz:=G3 e3 (D6 c.cues q)
    have hzL:D6 c.cues q<L.length:=by omega
    obtain⟨lz,hlz⟩:=A2 hzL
    have hbl:=A3 (R:=A1) hlz
    have hLD:L.getD (D6 c.cues q) 0=lz:=by rw[a0i,hlz];rfl
    rw[hLD]at hLz
    have hat2:∀v:Int,(iA ((zS c.cues L G k).set k v))[k]?=some (.val (.int .i64 v)):=fun v=>A0k (by rw[a5w (by omega)])
    by_cases hm2:q.link=2
    ·have hv:stV c.cues L G (stK c.cues L G k) k=(stK c.cues L G k).getD (D6 c.cues q) 0+q.delay+lz:=by unfold stV;rw[hq];simp only[hm,hm2,if_true,if_false];rw[hLD];rfl
     rw[hv]at hset
     generalize(stK c.cues L G k).getD (D6 c.cues q) 0=sz at*
     generalize D6 c.cues q=z at*
     repeat' first|refine WY ?_|refine Dw 10 ?_|refine Dv 10 ?_|refine Dw 12 ?_|refine Dv 12 ?_|(apply S.indexO (o2:=z);(iterate 4 exact rfl);omega;omega)|(apply S.indexO (o2:=k);(iterate 4 exact rfl);omega;omega)|refine Zb8 hat ?_|(apply S.loadP;exact rfl;exact rfl;exact(hat2 _);exact rfl)|(apply p2j;(iterate 3 exact rfl);first|omega|(rw[a6a];omega))|refine V ?_|refine W2 ?_ ?_<;>intro hc
     all_goals exact Next.go (k+1) (by omega) (by omega) CW (by rw[Af5,hset];exact .live rfl (.live (El _ _) .nil))
    ·have hv:stV c.cues L G (stK c.cues L G k) k=(stK c.cues L G k).getD (D6 c.cues q) 0+q.delay:=by unfold stV;rw[hq];simp only[hm,hm2,if_false]
     rw[hv]at hset
     generalize(stK c.cues L G k).getD (D6 c.cues q) 0=sz at*
     generalize D6 c.cues q=z at*
     repeat' first|refine WY ?_|refine Dw 10 ?_|refine Dv 10 ?_|(apply S.indexO (o2:=z);(iterate 4 exact rfl);omega;omega)|(apply S.indexO (o2:=k);(iterate 4 exact rfl);omega;omega)|refine Zb8 hat ?_|(apply p2j;(iterate 3 exact rfl);first|omega|(rw[a6a];omega))|refine V ?_|refine W2 ?_ ?_<;>intro hc
     all_goals exact Next.go (k+1) (by omega) (by omega) CW (by rw[<-hset];exact .live rfl (.live (El _ _) .nil))
  ·have h1:¬(k:Int)<(((upL c.cues.length).map A1).length:Nat):=by omega
   obtain rfl:k=c.cues.length:=by omega
   rw[Ahi]
   have how:=Aan (stK c.cues L G c.cues.length)
   rw[Dk]at how
   rw[hle]
   generalize stK c.cues L G c.cues.length=Z at*
   repeat' first|(refine T.freeze 11 rfl rfl how ?_)|refine W ?_|refine V ?_|refine W2 ?_ ?_<;>intro hc
   all_goals exact D2 rfl rfl rfl
 ·rw[if_neg e0]
  generalize stE c.cues L G=e at*
  refine Fo Tryz.func77 ?_
  repeat' first|refine WY ?_|refine Zb7 ?_|refine V ?_|refine W2 ?_ ?_<;>intro hc
  all_goals exact D2 rfl rfl rfl
end Go.Proofs.YtcaicpnepfjcmaaGreat
