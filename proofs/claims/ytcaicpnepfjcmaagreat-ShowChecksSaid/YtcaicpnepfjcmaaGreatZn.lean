/- Lemmas of the proof. -/
import Derived.Test.YtcaicpnepfjcmaaGreatPk
set_option linter.all false
set_option maxHeartbeats 64000000
namespace Go.Proofs.YtcaicpnepfjcmaaGreat
open Go Go.RowKit
def a7e:= @Tryz.func63
def a8j:= @Tryz.func33
/-! ### A curve that is lowered -/
def lwF(n:Int)(c:List PcQ):List PcQ:=if ∀p∈c,Fits (p.a-(n:Rat))then c.map (D9 (n:Rat))else[]
def lwG(n:Int)(c:List PcQ):Int:=if ∀p∈c,Fits (p.a-(n:Rat))then 0 else 5
theorem To(c:List PcQ)(n:Int)(hc:okC c)(hcl:c.length<=200)(hn:0<=n/\n<=1048576):Fz 126 [.sl (c.map PcQ.row),.i n] (.tup [.sl ((lwF n c).map PcQ.row),.i (lwG n c)]):=by
 have hle:=lmA c PcQ.row
 have hfn:Fits (n:Rat):=Bx (by omega) (by omega)
 have co:=Co n
 refine Fo Tryz.func126 ?_
 repeat' first|refine WX ?_|refine W2 ?_ ?_<;>intro hc
 refine T.kill 0 ?_
 refine p0c (fun k=>k<=c.length/\∀p∈c.take k,Fits (p.a-(n:Rat))) (fun k=>c.length-k) (fun k=>[(7,.i k),(6,rT 0 8 k),(0,.sl (c.map PcQ.row)),(1,.i n)]) (fun k=>[rB (Ae ((c.take k).map (D9 (n:Rat)))) k]) 0 ⟨a0k _,by simp⟩ CW (.dead .nil) ?_
 rintro k ⟨hk,hfk⟩
 by_cases hlt:k<c.length
 ·have h1:(k:Int)<((c.map PcQ.row).length:Nat):=by omega
  obtain⟨p,hp⟩:=A2 hlt
  have hb:=A3 (R:=PcQ.row) hp
  have hmem:=a0a hp
  have cs:=O2 p.a (n:Rat) (hc p hmem).a hfn
  change Fn0 _ _ [_,A0 [.i n,.i 1]] _ at cs
  have hsn:=Ad hp
  unfold Bg at cs
  by_cases hF:Fits (p.a-(n:Rat))
  ·rw[if_pos hF]at cs
   have hf':∀q∈c.take (k+1),Fits (q.a-(n:Rat)):=fun q hq=>by
    rw[hsn]at hq
    rcases a0p.1 hq with hq|hq
    ·exact hfk q hq
    ·obtain rfl:q=p:=by simpa using hq
     exact hF
   have hS:Ae ((c.take (k+1)).map (D9 (n:Rat)))=Ae ((c.take k).map (D9 (n:Rat)))++Ae [D9 (n:Rat) p]:=by rw[hsn,a1f,Cg];rfl
   unfold D9 at hS
   have hcl2:(Ae ((c.take k).map (D9 (n:Rat)))).length=k*8:=by rw[Az,a0e,a0x];omega
   generalize p.a-(n:Rat)=u at*
   obtain⟨pf,pa,pb,pc⟩:=p
   dsimp only at*
   rcases a3e k with h0|hpos
   ·subst h0
    repeat' first|refine WY ?_|refine Dv 11 ?_|refine Dw 11 ?_|refine Dv 10 ?_|refine Dw 10 ?_|refine Zb0 ?_|refine Zbw ?_|refine V ?_|refine W2 ?_ ?_<;>intro hc
    all_goals(first|(change Next _ _ _ _ _ _)|(trace_state;fail))
    all_goals exact Next.go 1 ⟨by omega,hf'⟩ (by omega) CW (by
     show CovH _ _ [.live (Ae ((c.take (0+1)).map (D9 (n:Rat))))]
     unfold D9
     rw[hS]
     exact .live rfl .nil)
   ·rw[Gf hpos,Ge hpos]
    repeat' first|refine WY ?_|refine Dv 11 ?_|refine Dw 11 ?_|refine Dv 10 ?_|refine Dw 10 ?_|refine Zb0 ?_|refine Zb2 hcl2 ?_|refine V ?_|refine W2 ?_ ?_<;>intro hc
    all_goals(first|(change Next _ _ _ _ _ _)|(trace_state;fail))
    all_goals exact Next.go (k+1) ⟨by omega,hf'⟩ (by omega) CW (by
     show CovH _ _ [.live (Ae ((c.take (k+1)).map (D9 (n:Rat))))]
     unfold D9
     rw[hS]
     exact .live (by unfold Ae;rw[<-a1f];exact Ac _ _) .nil)
  ·rw[if_neg hF]at cs
   have hno:¬∀p∈c,Fits (p.a-(n:Rat)):=fun h=>hF (h p hmem)
   unfold lwF lwG
   rw[if_neg hno,if_neg hno]
   repeat' first|refine WY ?_|refine Dv 11 ?_|refine Dw 11 ?_|refine Dv 10 ?_|refine Dw 10 ?_|(refine p0p 4 rfl ?_;apply T.ret;change Ao _ _ _ _ _)|refine V ?_|refine W2 ?_ ?_<;>intro hc
   all_goals exact D2 rfl rfl rfl
 ·have h1:¬(k:Int)<((c.map PcQ.row).length:Nat):=by omega
  obtain rfl:k=c.length:=by omega
  rw[a1l]at hfk⊢
  have hown:=K0 (c.map (D9 (n:Rat)))
  rw[a0e]at hown
  unfold lwF lwG
  rw[if_pos hfk,if_pos hfk]
  have hLl:(c.map (D9 (n:Rat))).length=c.length:=a0e _
  generalize c.map (D9 (n:Rat))=L at*
  refine p2d 6 0 (rows:=L.map PcQ.row) (Ix _) (by rw[a0e];exact hLl) rfl rfl ?_
  repeat' first|refine WX ?_|refine W2 ?_ ?_<;>intro hc
  all_goals exact D2 rfl rfl rfl
theorem Ue{x y:List PcQ}(h:Cr (· - ·) x y=0):F4 (· - ·) x y=sbL x y:=by
 obtain⟨h1,h2⟩:=Jd h
 unfold F4 sbL
 rw[if_neg h1,if_pos h2]
theorem A1w(x y:List PcQ)(n:Int):lwE x y (n:Rat)=if Cr (· - ·) x y=0 then lwG n (F4 (· - ·) x y)else Cr (· - ·) x y:=by
 unfold lwE
 by_cases h:Cr (· - ·) x y=0
 ·rw[if_pos h,if_pos h,Ue h];rfl
 ·rw[if_neg h,if_neg h]
theorem Aa8(x y:List PcQ)(n:Int):lwL x y (n:Rat)=if Cr (· - ·) x y=0 then lwF n (F4 (· - ·) x y)else[]:=by
 unfold lwL
 rw[A1w]
 by_cases h:Cr (· - ·) x y=0
 ·rw[if_pos h,if_pos h,Ue h]
  unfold lwG lwF
  by_cases k:∀p∈sbL x y,Fits (p.a-(n:Rat))
  ·rw[if_pos k,if_pos k,if_pos rfl]
  ·rw[if_neg k,if_neg k,if_neg (by decide)]
 ·rw[if_neg h,if_neg h,if_neg h]
theorem A1p{x y:List PcQ}(hx:okC x)(hy:okC y)(h:Cr (· - ·) x y=0):okC (F4 (· - ·) x y)/\(F4 (· - ·) x y).length<=200:=by
 rw[Ue h]
 have hS:=A33 h
 exact⟨hS.ok hx hy,by have:=hS.len;have:=(Jd h).1;omega⟩
theorem Pn(s:SetR)(hs:Cb s):∃a b d e:Int,Fz 62 [A0 s.row] (A0 [.i a,.i b,.i (Bh s),.i d,.i e]):=by
 have:=A2r s hs
 rw[<-Vp]
 exact⟨_,_,_,_,this⟩
theorem A2s(a b:SetR)(x y:List PcQ)(h:Two a b x y):
  Fz 63 [A0 a.row,A0 b.row,.sl (x.map PcQ.row),.sl (y.map PcQ.row)] (.tup [.sl ((dsL (As a) (As b) x y).map PcQ.row),.i (dsE (As a) (As b) x y)]):=by
 have o0:=Co 0
 have pu:=Mo x 0 h.ox (by have:=h.nx;omega) G0
 have pv:=Mo y 0 h.oy (by have:=h.ny;omega) G0
 have cu:=A84 x 0 h.ox h.x0 h.sx G0
 have cv:=A84 y 0 h.oy h.y0 h.sy G0
 rw[Mf]at pu pv cu cv
 obtain⟨a1,a2,a4,a5,gA⟩:=Pn a h.pa
 obtain⟨b1,b2,b4,b5,gB⟩:=Pn b h.pb
 have iA:=Uc h.pa
 have iB:=Uc h.pb
 have oA:=Co (Bh a)
 have oB:=Co (Bh b)
 have fA:=P1 h.pa
 have fu:=Oe (t:=0) h.ox h.x0
 have fv:=Oe (t:=0) h.oy h.y0
 have sA:=Ac0 x y h.ox h.oy h.x0 h.y0 h.sx h.sy h.nx h.ny
 have sB:=Ac0 y x h.oy h.ox h.y0 h.x0 h.sy h.sx h.ny h.nx
 unfold dsL dsE
 rw[show As a=((Bh a:Int):Rat)from rfl,show As b=((Bh b:Int):Rat)from rfl,A1w,Aa8,A1w,Aa8]
 rw[show As a=((Bh a:Int):Rat)from rfl]at fA
 have jA:=fun e=>A1p (x:=x) (y:=y) h.ox h.oy e
 have jB:=fun e=>A1p (x:=y) (y:=x) h.oy h.ox e
 have lA:Cr (· - ·) x y=0->_:=fun e=>To (F4 (· - ·) x y) (Bh a) (jA e).1 (jA e).2 iA
 have lB:Cr (· - ·) y x=0->_:=fun e=>To (F4 (· - ·) y x) (Bh b) (jB e).1 (jB e).2 iB
 generalize F4 (· - ·) x y=JA at*
 generalize Cr (· - ·) x y=EA at*
 generalize F4 (· - ·) y x=JB at*
 generalize Cr (· - ·) y x=EB at*
 clear jA jB
 generalize Bh a=ha at*
 generalize Bh b=hb at*
 unfold K5 at cu cv
 by_cases e1:atE x 0 0=0
 ·rw[if_pos e1]at cu
  by_cases e2:atE y 0 0=0
  ·rw[if_pos e2]at cv
   have c1:=O2 (atQ x 0) (atQ y 0) fu fv
   generalize atQ x 0=u at*
   generalize atQ y 0=v at*
   unfold Bg at c1
   by_cases e3:Fits (u-v)
   ·rw[if_pos e3]at c1
    have c2:=O2 (u-v) ((ha:Int):Rat) e3 fA
    change Fn0 _ _ [_,A0 [.i ha,.i 1]] _ at c2
    unfold Bg at c2
    by_cases e4:Fits (u-v-(ha:Rat))
    ·rw[if_pos e4]at c2
     simp only[e1,e2,e3,e4,if_true]
     generalize u-v=w at*
     by_cases e5:0<=w-(ha:Rat)
     ·have e6:¬(w-(ha:Rat)).num<0:=by have:=a4t.2 e5;omega
      generalize w-(ha:Rat)=z at*
      simp only[e5,if_true]
      by_cases ej:EA=0
      ·have lA:=lA ej
       rw[if_pos ej,if_pos ej]
       rw[ej]at sA
       generalize lwF ha JA=FF at*
       generalize lwG ha JA=GG at*
       refine Fo a7e ?_
       repeat' first|refine WY ?_|refine Dv 12 ?_|refine Dw 12 ?_|refine Dv 11 ?_|refine Dw 11 ?_|(refine p0v (id:=12) A8 ?_)|refine Zbc ?_|refine Zby ?_|refine Zd1 ?_|refine Zbh ?_|refine Zbp ?_|refine Zbu ?_|(apply p0a (i:=0) (j:=2);decide+kernel;exact rfl;exact rfl)|(apply Ords.one (i:=0);decide+kernel;exact rfl)|(apply Ords.one (i:=2);decide+kernel;exact rfl)|(apply Ords.one (i:=3);decide+kernel;exact rfl)|(apply Ords.one (i:=7);decide+kernel;exact rfl)|refine Zbs ?_|refine V ?_|refine W2 ?_ ?_<;>intro hc
       all_goals exact D2 rfl rfl rfl
      ·rw[if_neg ej,if_neg ej]
       refine Fo a7e ?_
       repeat' first|refine WY ?_|refine Dv 12 ?_|refine Dw 12 ?_|refine Dv 11 ?_|refine Dw 11 ?_|(refine p0v (id:=12) A8 ?_)|refine Zbc ?_|refine Zby ?_|refine Zd1 ?_|refine Zbh ?_|refine Zbp ?_|refine Zbu ?_|(apply p0a (i:=0) (j:=2);decide+kernel;exact rfl;exact rfl)|(apply Ords.one (i:=0);decide+kernel;exact rfl)|(apply Ords.one (i:=2);decide+kernel;exact rfl)|(apply Ords.one (i:=3);decide+kernel;exact rfl)|(apply Ords.one (i:=7);decide+kernel;exact rfl)|refine Zbs ?_|refine Zbn ?_|refine V ?_|refine W2 ?_ ?_<;>intro hc
       all_goals exact D2 rfl rfl rfl
     ·have e6:(w-(ha:Rat)).num<0:=by
       rcases a5q (w-(ha:Rat)).num 0 with k|k
       ·exact k
       ·exact absurd (a4t.1 k) e5
      generalize w-(ha:Rat)=z at*
      simp only[e5,if_false]
      by_cases ej:EB=0
      ·have lB:=lB ej
       rw[if_pos ej,if_pos ej]
       rw[ej]at sB
       generalize lwF hb JB=FF at*
       generalize lwG hb JB=GG at*
       refine Fo a7e ?_
       repeat' first|refine WY ?_|refine Dv 12 ?_|refine Dw 12 ?_|refine Dv 11 ?_|refine Dw 11 ?_|(refine p0v (id:=12) A8 ?_)|refine Zbc ?_|refine Zby ?_|refine Zd1 ?_|refine Zbh ?_|refine Zbp ?_|refine Zbu ?_|(apply p0a (i:=0) (j:=2);decide+kernel;exact rfl;exact rfl)|(apply Ords.one (i:=0);decide+kernel;exact rfl)|(apply Ords.one (i:=2);decide+kernel;exact rfl)|(apply Ords.one (i:=3);decide+kernel;exact rfl)|(apply Ords.one (i:=7);decide+kernel;exact rfl)|refine Zbs ?_|refine V ?_|refine W2 ?_ ?_<;>intro hc
       all_goals exact D2 rfl rfl rfl
      ·rw[if_neg ej,if_neg ej]
       refine Fo a7e ?_
       repeat' first|refine WY ?_|refine Dv 12 ?_|refine Dw 12 ?_|refine Dv 11 ?_|refine Dw 11 ?_|(refine p0v (id:=12) A8 ?_)|refine Zbc ?_|refine Zby ?_|refine Zd1 ?_|refine Zbh ?_|refine Zbp ?_|refine Zbu ?_|(apply p0a (i:=0) (j:=2);decide+kernel;exact rfl;exact rfl)|(apply Ords.one (i:=0);decide+kernel;exact rfl)|(apply Ords.one (i:=2);decide+kernel;exact rfl)|(apply Ords.one (i:=3);decide+kernel;exact rfl)|(apply Ords.one (i:=7);decide+kernel;exact rfl)|refine Zbs ?_|refine Zbn ?_|refine V ?_|refine W2 ?_ ?_<;>intro hc
       all_goals exact D2 rfl rfl rfl
    ·rw[if_neg e4]at c2
     simp only[e1,e2,e3,e4,if_true,if_false]
     skip
     refine Fo a7e ?_
     repeat' first|refine WY ?_|refine Dv 12 ?_|refine Dw 12 ?_|refine Dv 11 ?_|refine Dw 11 ?_|(refine p0v (id:=12) A8 ?_)|refine Zbc ?_|refine Zby ?_|refine Zd1 ?_|refine Zbh ?_|refine Zbp ?_|refine Zbu ?_|(apply p0a (i:=0) (j:=2);decide+kernel;exact rfl;exact rfl)|(apply Ords.one (i:=0);decide+kernel;exact rfl)|(apply Ords.one (i:=2);decide+kernel;exact rfl)|(apply Ords.one (i:=3);decide+kernel;exact rfl)|(apply Ords.one (i:=7);decide+kernel;exact rfl)|refine Zbs ?_|refine Zbn ?_|refine V ?_|refine W2 ?_ ?_<;>intro hc
     all_goals exact D2 rfl rfl rfl
   ·rw[if_neg e3]at c1
    simp only[e1,e2,e3,if_true,if_false]
    skip
    refine Fo a7e ?_
    repeat' first|refine WY ?_|refine Dv 12 ?_|refine Dw 12 ?_|refine Dv 11 ?_|refine Dw 11 ?_|refine Zbn ?_|refine V ?_|refine W2 ?_ ?_<;>intro hc
    all_goals exact D2 rfl rfl rfl
  ·rw[if_neg e2]at cv
   simp only[e1,e2,if_true,if_false]
   generalize atE y 0 0=e at*
   skip
   refine Fo a7e ?_
   repeat' first|refine WY ?_|refine Dv 12 ?_|refine Dw 12 ?_|refine Dv 11 ?_|refine Dw 11 ?_|refine Zbn ?_|refine V ?_|refine W2 ?_ ?_<;>intro hc
   all_goals exact D2 rfl rfl rfl
 ·rw[if_neg e1]at cu
  simp only[e1,if_false]
  generalize atE x 0 0=e at*
  skip
  refine Fo a7e ?_
  repeat' first|refine WY ?_|refine Dv 12 ?_|refine Dw 12 ?_|refine Dv 11 ?_|refine Dw 11 ?_|refine Zbn ?_|refine V ?_|refine W2 ?_ ?_<;>intro hc
  all_goals exact D2 rfl rfl rfl
theorem A7y(a b:SetR)(x y:List PcQ)(h:Two a b x y)(te:Rat)(ht:Fits te)(h0:0<=te)(h1:te<=1099511627776):Fz 61 [A0 a.row,A0 b.row,.sl (x.map PcQ.row),.sl (y.map PcQ.row),A0 (frR te)] (.i 0):=by
 obtain⟨e,ce,he⟩:=Abh a b (x.map toR) (y.map toR) te.num te.den h.fa h.fb (by rw[a0e];have:=h.nx;omega) (by rw[a0e];have:=h.ny;omega)
 have e0:e=0:=he.2 ⟨⟨h.pa,h.pb,Qn h.ox h.sx (a1i.2 h.x0) h.nx,Qn h.oy h.sy (a1i.2 h.y0) h.ny,ht.valid⟩,a4t.2 h0,by rw[F9];exact h1⟩
 subst e0
 rw[Y4,Y4]at ce
 exact ce
theorem Agw{te:Rat}(h0:0<=te)(h1:te<=1099511627776):C2 0/\C2 te:=⟨by decide+kernel,a1c (by decide+kernel) h0,h1⟩
theorem Abg(a b:SetR)(x y:List PcQ)(h:Two a b x y)(te:Rat)(ht:Fits te)(h0:0<=te)(h1:te<=1099511627776):
  Fz 33 [A0 a.row,A0 b.row,.sl (x.map PcQ.row),.sl (y.map PcQ.row),A0 (frR te)] (Jc a b x y te):=by
 have cg:=A7y a b x y h te ht h0 h1
 have cn:=Uq a b h.pa h.pb
 obtain⟨a1,a2,a4,a5,gA⟩:=Pn a h.pa
 obtain⟨b1,b2,b4,b5,gB⟩:=Pn b h.pb
 have cd:=A2s a b x y h
 have o0:=Co 0
 obtain⟨r1,r2⟩:=Agw h0 h1
 have hall:=fun e=>A9n (ha:=As a) (hb:=As b) h.ox h.oy h.x0 h.y0 h.sx h.sy e
 have cf:dsE (As a) (As b) x y=0->_:=fun e=>Aes (dsL (As a) (As b) x y) 0 te (hall e).1 (hall e).2.2.1 (by have:=(hall e).2.2.2;omega) G0 ht h0 r1 r2
 have hfs:dsE (As a) (As b) x y=0->By (dsL (As a) (As b) x y) 0 te=Cc (dsL (As a) (As b) x y) 0 te:=fun e=>A7j (hall e).2.1 h0 r1 r2
 unfold Jc
 generalize dsL (As a) (As b) x y=L at*
 generalize dsE (As a) (As b) x y=E at*
 generalize Bh a=ha at*
 generalize Bh b=hb at*
 by_cases e1:Cu a b
 ·rw[decide_eq_true e1]at cn
  by_cases e2:ha=0/\hb=0
  ·obtain⟨e2,e3⟩:=e2
   rw[if_neg (fun k=>k.2 ⟨e2,e3⟩)]
   refine Fo a8j ?_
   repeat' first|refine WY ?_|refine Zbs ?_|refine V ?_|refine W2 ?_ ?_<;>intro hc
   all_goals exact D3 rfl rfl rfl rfl rfl rfl rfl
  ·rw[if_pos ⟨e1,e2⟩]
   by_cases e3:E=0
   ·have cf:=cf e3
    rw[if_pos e3]
    rw[<-hfs e3]at cf
    change Fn0 _ _ [_,A0 [.i 0,.i 1],_] _ at cf
    obtain⟨u,v,w,hu⟩:=Qr L 0 te
    rw[hu]at cf⊢
    by_cases e4:ha=0
    ·have e5:¬hb=0:=fun k=>e2 ⟨e4,k⟩
     refine Fo a8j ?_
     repeat' first|refine WY ?_|refine Zbs ?_|refine Dv 6 ?_|refine Dw 6 ?_|refine V ?_|refine W2 ?_ ?_<;>intro hc
     all_goals exact D3 rfl rfl rfl rfl rfl rfl rfl
    ·skip
     refine Fo a8j ?_
     repeat' first|refine WY ?_|refine Zbs ?_|refine Dv 6 ?_|refine Dw 6 ?_|refine V ?_|refine W2 ?_ ?_<;>intro hc
     all_goals exact D3 rfl rfl rfl rfl rfl rfl rfl
   ·rw[if_neg e3]
    by_cases e4:ha=0
    ·have e5:¬hb=0:=fun k=>e2 ⟨e4,k⟩
     refine Fo a8j ?_
     repeat' first|refine WY ?_|refine Zbs ?_|refine V ?_|refine W2 ?_ ?_<;>intro hc
     all_goals exact D3 rfl rfl rfl rfl rfl rfl rfl
    ·skip
     refine Fo a8j ?_
     repeat' first|refine WY ?_|refine Zbs ?_|refine V ?_|refine W2 ?_ ?_<;>intro hc
     all_goals exact D3 rfl rfl rfl rfl rfl rfl rfl
 ·rw[decide_eq_false e1]at cn
  rw[if_neg (fun k=>e1 k.1)]
  refine Fo a8j ?_
  repeat' first|refine WY ?_|refine Zbs ?_|refine V ?_|refine W2 ?_ ?_<;>intro hc
  all_goals exact D3 rfl rfl rfl rfl rfl rfl rfl
end Go.Proofs.YtcaicpnepfjcmaaGreat
