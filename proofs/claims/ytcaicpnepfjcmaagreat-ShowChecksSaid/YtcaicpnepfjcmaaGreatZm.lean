/- Lemmas of the proof. -/
import Derived.Test.YtcaicpnepfjcmaaGreatPr
set_option linter.all false
set_option maxHeartbeats 64000000
namespace Go.Proofs.YtcaicpnepfjcmaaGreat
open Go Go.RowKit
theorem Afq(p q:Nat)(l:List Lf):(l.map AV.lf).map (AV.sw p q)=l.map AV.lf:=by
 rw[a7y];rfl
theorem A56(l:List Lf):(l.map AV.lf).all AV.flat1=true:=by
 rw[a9w,a0l];intro x _;rfl
theorem A2g(l:List Lf):HB.plain (.live (l.map AV.lf))=true:=A56 l
theorem Dc{x:HB}{H:AH}(h1:x.plain=true)(h2:H.all HB.plain=true):(x::H).all HB.plain=true:=by
 rw[a6r,h1,h2];rfl
theorem Ain(p q:Nat)(l:List PcQ):(Ae l).map (AV.sw p q)=Ae l:=Afq p q _
theorem Z5(l:List PcQ):HB.plain (.live (Ae l))=true:=A56 _
theorem A5r:∀l:List PcQ,(Ae l).all AV.one=true
 |[]=>rfl
 |x::l=>by rw[C3,a2k,A5r l];rfl
theorem Yb(b:Nat)(l:List PcQ):(Ae l).all (AV.clear b)=true:=Aj b _
theorem Ae8(a:List PcQ)(l:PcQ):(Ae (a++[l])).take (a.length*8)=Ae a:=by
 rw[Cg,List.take_left' (Az a)]
theorem Zr{h:HouseR}(hp:Bv h){k:Nat}{s:SetR}(hs:h.sets[k]?=some s):Aa h s.name=(k:Int):=by
 refine(Hn (p:=fun x:SetR=>x.name=s.name) hs rfl).2 ?_
 rintro⟨y,hy,e⟩
 obtain⟨j,hj⟩:=a2x hy
 have hjk:j<k:=by have:=(a0f.1 hj).1;simp at this;omega
 rw[a1o hjk]at hj
 have:=A23 hp.2.2.2.2.2.2 hj hs e
 omega
def Ev(up:Prop)[Decidable up](q:Rat):Rat:=if up then q else-q
theorem Pm(q:Rat)(h:Fits q)(up:Prop)[Decidable up]:Fz 263 [A0 (frR q),.b (decide up)] (A0 (frR (Ev up q))):=by
 unfold Ev
 have cn:=K4 q h
 by_cases hu:up
 ·rw[decide_eq_true hu,if_pos hu]
  refine Fo Tryz.func263 ?_
  repeat' first|refine WX ?_|refine W2 ?_ ?_<;>intro hc
  all_goals exact D4 rfl rfl rfl rfl rfl rfl
 ·rw[decide_eq_false hu,if_neg hu]
  refine Fo Tryz.func263 ?_
  repeat' first|refine WX ?_|refine W2 ?_ ?_<;>intro hc
  all_goals exact D4 rfl rfl rfl rfl rfl rfl
theorem Zt(s z:Int)(up:Prop)[Decidable up](x:PcQ):Af s z up x=⟨A4 s 1000+x.f,(z:Rat)+Ev up x.a,Ev up x.b,Ev up x.c⟩:=by
 unfold Af Ev
 split
 ·rfl
 ·rw[a4l]
theorem Afh{up:Prop}[Decidable up]{q:Rat}(h:Fits q):Fits (Ev up q):=by
 unfold Ev
 split
 ·exact h
 ·exact U8 h
theorem piece_trn{s z:Int}{up:Prop}[Decidable up]{x:PcQ}:Iy s z up x↔Fits (A4 s 1000+x.f)/\Fits ((z:Rat)+Ev up x.a):=by
 unfold Iy Ev
 constructor
 ·rintro⟨h1,h2,h3⟩
  refine⟨h1,?_⟩
  split
  ·rename_i hu;exact h2 hu
  ·rename_i hu;rw[<-a4l];exact h3 hu
 ·rintro⟨h1,h2⟩
  refine⟨h1,fun hu=>?_,fun hu=>?_⟩
  ·rwa[if_pos hu]at h2
  ·rw[if_neg hu,<-a4l]at h2;exact h2
theorem Aep(h:HouseR)(c:SheetR)(G:List Int)(p:PlanOk h c G)(hf:h.fits)(hc:c.fits){k:Nat}{s:SetR}(hs:h.sets[k]?=some s):
  Fz 118 [A0 h.row,A0 c.row,.sl ((stL h c G).map A1),.i k] (.tup [.sl ((Ra h c (stL h c G) k s).map PcQ.row),.i (Fp h c (stL h c G) k s)]):=by
 have h60:=p.v.2.1
 have hs60:h.sets.length<=60:=p.v.1.2.2.2.1
 have hlk:=(a0f.1 hs).1
 have hbs:=A3 (R:=SetR.row) hs
 obtain⟨⟨_,_,s1,s2,s3,_⟩,_⟩:=p.v.1.2.2.2.2.2.1 s (a0a hs)
 have o0:=Co 0
 have oh:=Co s.high
 have ct:=Zd h c hf hc p.v
 have hle:=lmA c.cues CueR.row
 have hle2:=lmA h.sets SetR.row
 have hfs:Fits (s.high:Rat):=Bx (by omega) (by omega)
 have bS:=p.st
 have hSl:=E6 h c G
 have hle3:((stL h c G).map A1).length=c.cues.length:=by rw[a0e,hSl]
 have hle4:(trL h c).length=c.cues.length+1:=by unfold trL Cz;rw[a0e,a0e,a3o]
 change Fn0 _ _ _ (.sl (trL h c))at ct
 generalize stL h c G=sS at*
 have hne:=Sn h c sS k s
 have hpl:=Uj h c sS k s
 refine Fo Tryz.func118 ?_
 repeat' first|refine WY ?_|refine Dv 10 ?_|refine Dw 10 ?_|refine Zbt ?_|refine V ?_|refine W2 ?_ ?_<;>intro hc
 refine T.kill 2 ?_
 refine p0c (fun i=>i<=c.cues.length/\∀j,j<i->okC (Dt h c sS k s.name j)) (fun i=>c.cues.length-i) (fun i=>[(13,.i i),(12,.own 3 0 (Bm h c sS k s i).length 8),(11,.sl (trL h c)),(4,.ptr 0 0),(5,.ptr 1 0),(2,.sl (sS.map A1)),(3,.i k)]) (fun i=>[.live (h.row.map .lf),.live (c.row.map .lf),.dead,.live (Ae (Bm h c sS k s i))]) 0 ⟨a0k _,by intro j hj;omega⟩ CW CH ?_
 rintro i ⟨hi,hok⟩
 have hpi:=hpl i
 by_cases hlt:i<c.cues.length
 ·have h1:(i:Int)<((c.cues.map CueR.row).length:Nat):=by omega
  obtain⟨q,hq⟩:=A2 hlt
  have hb:=A3 (R:=CueR.row) hq
  have hbt:=Wz (h:=h) hi
  have g:=F6 p.v hq
  obtain⟨z,hz⟩:=A2 (l:=B5 h c i) (k:=k) (by rw[g.len];exact hlk)
  have hbz:=A3 (R:=A1) hz
  have hz1:=g.trims k z s hz hs
  obtain⟨x,hx⟩:=A2 (l:=sS) (k:=i) (by omega)
  have hbx:=A3 (R:=A1) hx
  have hqm:=hc.2.2 q (a0a hq)
  have cm:=Zf q s.name (by omega)
  have hnew:=A5p (h:=h) (sS:=sS) (k:=k) (n:=s.name) hq
  rw[a0i,a0i,hx,hz,a1a,a1a]at hnew
  have hlz:((B5 h c i).map A1).length=h.sets.length:=by rw[a0e,g.len]
  have hK0:Bm h c sS k s (i+1)=(Dt h c sS k s.name i).foldl Be (Bm h c sS k s i):=rfl
  have hne0:=hne i
  have hskip:Dt h c sS k s.name i=[]->Bm h c sS k s (i+1)=Bm h c sS k s i/\∀j,j<i+1->okC (Dt h c sS k s.name j):=fun e=>⟨by rw[hK0,e];rfl,fun j hj=>by
   by_cases ej:j=i
   ·subst ej;rw[e];intro p hp;cases hp
   ·exact hok j (by omega)⟩
  have hbad:¬okC (Dt h c sS k s.name i)->Ra h c sS k s=[]/\Fp h c sS k s=5:=fun hn=>by
   have hB:Qk h c sS k s:=⟨i,hlt,hn⟩
   have he:Fp h c sS k s=5:=if_pos hB
   exact⟨by unfold Ra;rw[he];exact if_neg (by decide),he⟩
  cases e:mvO q s.name with
  |none=>
   rw[e]at cm hnew
   change Fn0 _ _ _ (.tup [A0 zM,.b false])at cm
   obtain⟨hK,hok2⟩:=hskip hnew
   generalize Bm h c sS k s i=O at*
   repeat' first|refine WY ?_|refine Dv 18 ?_|refine Dw 18 ?_|refine Dv 14 ?_|refine Dw 14 ?_|refine Da ?_|refine V ?_|refine W2 ?_ ?_<;>intro hc
   all_goals(first|(change Next _ _ _ _ _ _)|(trace_state;fail))
   all_goals exact Next.go (i+1) ⟨by omega,hok2⟩ (by omega) (by rw[hK,show(((i+1:Nat):Int))=(i:Int)+1 by omega];exact CW) (by rw[hK];exact .live rfl (.live rfl (.dead (.live (Bn _ _) .nil))))
  |some m=>
   rw[e]at cm hnew
   change Fn0 _ _ _ (.tup [A0 m.row,.b true])at cm
   by_cases ez:m.to=z
   ·have hnew2:Dt h c sS k s.name i=[]:=by rw[hnew];show Jf _ _ _=[];unfold Jf;rw[if_pos ez]
    obtain⟨hK,hok2⟩:=hskip hnew2
    generalize Bm h c sS k s i=O at*
    repeat' first|refine WY ?_|refine Dv 18 ?_|refine Dw 18 ?_|refine Dv 14 ?_|refine Dw 14 ?_|refine Da ?_|refine V ?_|refine W2 ?_ ?_<;>intro hc
    all_goals(first|(change Next _ _ _ _ _ _)|(trace_state;fail))
    all_goals exact Next.go (i+1) ⟨by omega,hok2⟩ (by omega) (by rw[hK,show(((i+1:Nat):Int))=(i:Int)+1 by omega];exact CW) (by rw[hK];exact .live rfl (.live rfl (.dead (.live (Bn _ _) .nil))))
   ·have hmq:=Xq e
    obtain⟨_,_,_,_,_,hmv,_⟩:=g.right
    have hmi:=hmv m hmq
    have hmr:=hmi.range p.v.1
    have hmp:=hmi.1
    have hd:1<=max (m.to-z) (z-m.to)/\max (m.to-z) (z-m.to)<=1048576:=by omega
    have cc:=Ab8 _ m hmp hd
    have hsi:Aa h m.set=(k:Int):=by rw[(mvO_spec (q:=q) (n:=s.name)).1 m e|>.2];exact Zr p.v.1 hs
    have hzi:(B5 h c i)[(Aa h m.set).toNat]?=some z:=by rw[hsi,a0q];exact hz
    have cd:=Rf h (B5 h c i) m z hf.1 (by omega) hzi (by omega) (by omega)
    have hdi:Lb h (B5 h c i) m=max (m.to-z) (z-m.to):=by rw[Jq hzi];omega
    rw[hdi]at cd
    have hnew2:Dt h c sS k s.name i=(D7 (max (m.to-z) (z-m.to)) m).map (Af x z (z<m.to)):=by rw[hnew];show Jf _ _ _=_;unfold Jf;rw[if_neg ez]
    have hwo:=Vf hmp hd
    have hwl:=Ot (max (m.to-z) (z-m.to)) m
    rw[hnew2]at hbad hK0
    have hxr:=bS i
    rw[a0i,hx,a1a]at hxr
    have fs:Fits (A4 x 1000):=Bu (by omega) (by omega) (by omega) (by omega)
    have fz:Fits (z:Rat):=Bx (by omega) (by omega)
    have cM:=Um x 1000 (by decide) (by omega) (by omega) (by decide) (by decide) fs
    have cZ:=Co z
    generalize D7 (max (m.to-z) (z-m.to)) m=ws at*
    generalize max (m.to-z) (z-m.to)=dd at*
    have hwsl:=lmA ws PcQ.row
    obtain⟨O,hO⟩:∃O,O=Bm h c sS k s i:=⟨_,rfl⟩
    rw[<-hO]at hK0 hne0 hpi⊢
    have hstep:∀j y,ws[j]?=some y->((ws.map (Af x z (z<m.to))).take (j+1)).foldl Be O=Be (((ws.map (Af x z (z<m.to))).take j).foldl Be O) (Af x z (z<m.to) y):=fun j y hy=>N2 _ _ (by rw[a0d,hy];rfl)
    have hoj:∀j,((ws.map (Af x z (z<m.to))).take j).foldl Be O≠[]:=fun j=>Ph _ _ hne0
    have hlj:∀j,(((ws.map (Af x z (z<m.to))).take j).foldl Be O).length<=4*i+5:=fun j=>by
     have h1:=N9 ((ws.map (Af x z (z<m.to))).take j) O
     have h2:((ws.map (Af x z (z<m.to))).take j).length<=ws.length:=by rw[a0x,a0e];omega
     omega
    repeat' first|refine WY ?_|refine Dv 18 ?_|refine Dw 18 ?_|refine Dv 14 ?_|refine Dw 14 ?_|refine Dv 10 ?_|refine Dw 10 ?_|(apply p5j 5 23 A8 (by decide+kernel);simp only[a3t,a4s])|(apply p5w 5 23 A8 (by decide+kernel);simp only[a3t,a4s])|refine Zbc ?_|refine Zdm ?_|refine Zda ?_|refine Zdb ?_|refine Zdn ?_|refine Zdo ?_|(apply Ords.one (i:=23);decide+kernel;exact rfl)|(refine p2a [(13,.i i),(11,.sl (trL h c)),(4,.ptr 0 0),(5,.ptr 1 0),(2,.sl (sS.map A1)),(3,.i k)] Tryz.func201 Tryz.ntmps201 rfl rfl rfl rfl rfl rfl rfl CW rfl ?_;intro vs;simp only[Ak,a3g,a4h])|refine V ?_|refine W2 ?_ ?_<;>intro hc
    refine T.kill 4 ?_
    refine p0c (fun j=>j<=ws.length/\okC ((ws.map (Af x z (z<m.to))).take j)) (fun j=>ws.length-j) (fun j=>[(14,.i j),(12,.ptr 6 0),(0,.own 3 0 (((ws.map (Af x z (z<m.to))).take j).foldl Be O).length 8),(1,.sl (ws.map PcQ.row)),(3,.i z),(4,.b (decide (z<m.to)))]) (fun j=>[.live (h.row.map .lf),.live (c.row.map .lf),.dead,.live (Ae (((ws.map (Af x z (z<m.to))).take j).foldl Be O)),.dead,.gho [.i i,.sl (trL h c),.ptr 0 0,.ptr 1 0,.sl (sS.map A1),.i k] vs,.live ((frR (A4 x 1000)).map .lf)]) 0 ⟨a0k _,by intro p hp;cases hp⟩ CW (.live rfl (.live rfl (.dead (.live (Bn _ _) (.dead (.gho rfl (.live rfl .nil))))))) ?_
    rintro j ⟨hj,hjo⟩
    by_cases hlj2:j<ws.length
    ·have h2:(j:Int)<((ws.map PcQ.row).length:Nat):=by omega
     obtain⟨y,hy⟩:=A2 hlj2
     have hby:=A3 (R:=PcQ.row) hy
     have hyo:=hwo y (a0a hy)
     have hsj:=hstep j y hy
     have hlj3:=hlj j
     obtain⟨aA,l,hA⟩:=Vv (hoj j)
     have hlj4:(aA++[l]).length<=4*i+5:=by rw[<-hA];exact hlj3
     rw[hA]at hsj⊢
     have hln:(aA++[l]).length=aA.length+1:=by simp
     have hlg:(aA++[l])[aA.length]?=some l:=by simp
     have hld:=Nf _ _ _ hlg
     have hcl:=Az (aA++[l])
     have cA:=K3 _ _ fs hyo.f
     have cT1:=Pm y.a hyo.a (z<m.to)
     have cT2:=Pm y.b hyo.b (z<m.to)
     have cT3:=Pm y.c hyo.c (z<m.to)
     have cA2:=K3 _ _ fz (Afh (up:=z<m.to) hyo.a)
     by_cases f1:Fits (A4 x 1000+y.f)
     ·rw[Fy f1]at cA
      by_cases f2:Fits ((z:Rat)+Ev (z<m.to) y.a)
      ·rw[Fy f2]at cA2
       have hp:Iy x z (z<m.to) y:=piece_trn.2 ⟨f1,f2⟩
       have hpo:=Zs hp hyo
       have hst:=Ng (aA++[l]) aA.length l (Af x z (z<m.to) y) hlg
       have hjo2:okC ((ws.map (Af x z (z<m.to))).take (j+1)):=by
        rw[a0u,a0d,hy]
        intro p' hp'
        rcases a0p.1 hp' with hp'|hp'
        ·exact hjo p' hp'
        ·obtain rfl:p'=Af x z (z<m.to) y:=by simpa using hp'
         exact hpo
       have hpr:(Af x z (z<m.to) y).row=[.i (A4 x 1000+y.f).num,.i (A4 x 1000+y.f).den,.i ((z:Rat)+Ev (z<m.to) y.a).num,.i ((z:Rat)+Ev (z<m.to) y.a).den,.i (Ev (z<m.to) y.b).num,.i (Ev (z<m.to) y.b).den,.i (Ev (z<m.to) y.c).num,.i (Ev (z<m.to) y.c).den]:=by rw[Zt];rfl
       have hvf:(Af x z (z<m.to) y).f=A4 x 1000+y.f:=by rw[Zt]
       generalize Af x z (z<m.to) y=v at*
       generalize Ev (z<m.to) y.b=tb at*
       generalize Ev (z<m.to) y.c=tc at*
       generalize(z:Rat)+Ev (z<m.to) y.a=ta2 at*
       generalize Ev (z<m.to) y.a=ta at*
       generalize A4 x 1000+y.f=fv at*
       by_cases hf:l.f=v.f
       ·have hf2:=(A0i l.f fv).2 (hf.trans hvf)
        rw[Rb _ _ _ hf]at hsj
        repeat' first|refine WY ?_|refine Dv 13 ?_|refine Dw 13 ?_|refine Dv 9 ?_|refine Dw 9 ?_|(apply S.indexO (o2:=aA.length*8);(iterate 4 exact rfl);omega;omega)|refine Zd5 hld ?_|refine Zd9 ?_|refine V ?_|refine W2 ?_ ?_<;>intro hc
        refine S.trimB 3 (aA.length*8) rfl (Ae8 aA l) ?_
        repeat' first|refine WY ?_|refine Zbt ?_|(apply p3p (l2:=aA.length);(iterate 4 exact rfl);omega;omega)|(apply p4o;(iterate 5 exact rfl);exact Dz rfl (Dz rfl (Dz rfl (Dz (Yb _ _) (Dz rfl (Dz rfl (Dz rfl (Dz rfl (Dz rfl (Dz rfl rfl)))))))));(iterate 3 exact rfl);exact Az _;exact A5r _;exact Yb _ _;omega;omega)|refine V ?_|refine W2 ?_ ?_<;>intro hc
        refine T.weaken [(14,.i j),(12,.ptr 6 0),(0,.own 10 0 aA.length 8),(1,.sl (ws.map PcQ.row)),(3,.i z),(4,.b (decide (z<m.to))),(15,.ptr 7 0),(16,.ptr 8 0),(18,.ptr 9 0)] (fun t x h=>(Cov.get (n:=20) CV t x h).1) ?_
        show T _ _ _ ⟨_,[.live (h.row.map .lf),.live (c.row.map .lf),.dead,.live (Ae aA),.dead,.gho [.i i,.sl (trL h c),.ptr 0 0,.ptr 1 0,.sl (sS.map A1),.i k] vs,.live ((frR (A4 x 1000)).map .lf),.live (y.row.map .lf),.live ((frR fv).map .lf),.live ((frR ta2).map .lf),.live (Ae aA)]⟩ _
        refine p5z 3 10 (tm':=[(14,.i j),(12,.ptr 6 0),(0,.own 3 0 aA.length 8),(1,.sl (ws.map PcQ.row)),(3,.i z),(4,.b (decide (z<m.to))),(15,.ptr 7 0),(16,.ptr 8 0),(18,.ptr 9 0)]) (H':=[.live (h.row.map .lf),.live (c.row.map .lf),.dead,.live (Ae aA),.dead,.gho [.i i,.sl (trL h c),.ptr 0 0,.ptr 1 0,.sl (sS.map A1),.i k] vs,.live ((frR (A4 x 1000)).map .lf),.live (y.row.map .lf),.live ((frR fv).map .lf),.live ((frR ta2).map .lf),.live (Ae aA)]) ?_ (show 3<11 by decide) (show 10<11 by decide) (Dc (A2g _) (Dc (A2g _) (Dc rfl (Dc (Z5 _) (Dc rfl (Dc rfl (Dc rfl (Dc rfl (Dc rfl (Dc rfl (Dc (Z5 _) rfl))))))))))) rfl rfl (by show([.live ((h.row.map .lf).map (AV.sw 3 10)),.live ((c.row.map .lf).map (AV.sw 3 10)),.dead,.live ((Ae aA).map (AV.sw 3 10)),.dead,.gho [.i i,.sl (trL h c),.ptr 0 0,.ptr 1 0,.sl (sS.map A1),.i k] vs,.live (((frR (A4 x 1000)).map .lf).map (AV.sw 3 10)),.live ((y.row.map .lf).map (AV.sw 3 10)),.live (((frR fv).map .lf).map (AV.sw 3 10)),.live (((frR ta2).map .lf).map (AV.sw 3 10)),.live ((Ae aA).map (AV.sw 3 10))]:AH)=_;simp only[Afq,Ain])
        refine T.kill 10 ?_
        have happ:=Cg aA [v]
        have hcA:=Az aA
        repeat' first|refine WY ?_|refine Dv 13 ?_|refine Dw 13 ?_|refine Zb0 ?_|refine Zb2 hcA ?_|refine V ?_|refine W2 ?_ ?_<;>intro hc
        all_goals(first|(change Next _ _ _ _ _ _)|(trace_state;fail))
        all_goals exact Next.go (j+1) ⟨by omega,hjo2⟩ (by omega) (by rw[hsj,show(((j+1:Nat):Int))=(j:Int)+1 by omega,show(aA++[v]).length=aA.length+1 by simp];exact CW) (by rw[hsj];exact .live rfl (.live rfl (.dead (p1v (show Ae aA++_=_ by rw[happ];congr 1;rw[C3,hpr];rfl) (Bn _ _) (.dead (.gho rfl (.live rfl .nil)))))))
       ·have hf2:¬(l.f.num=fv.num/\(l.f.den:Int)=fv.den):=fun k=>hf (((A0i l.f fv).1 k).trans hvf.symm)
        rw[Uk _ _ _ hf]at hsj
        have happ:=Cg (aA++[l]) [v]
        repeat' first|refine WY ?_|refine Dv 13 ?_|refine Dw 13 ?_|refine Dv 9 ?_|refine Dw 9 ?_|(apply S.indexO (o2:=aA.length*8);(iterate 4 exact rfl);omega;omega)|refine Zd5 hld ?_|refine Zd9 ?_|refine Zb0 ?_|refine Zb2 hcl ?_|refine V ?_|refine W2 ?_ ?_<;>intro hc
        all_goals(first|(change Next _ _ _ _ _ _)|(trace_state;fail))
        all_goals exact Next.go (j+1) ⟨by omega,hjo2⟩ (by omega) (by rw[hsj,show(((j+1:Nat):Int))=(j:Int)+1 by omega,show(aA++[l]++[v]).length=(aA++[l]).length+1 by simp];exact CW) (by rw[hsj];exact .live rfl (.live rfl (.dead (p1v (show Ae (aA++[l])++_=_ by rw[happ];congr 1;rw[C3,hpr];rfl) (Bn _ _) (.dead (.gho rfl (.live rfl .nil)))))))
      ·rw[show Bg ((z:Rat)+Ev (z<m.to) y.a)=big from if_neg f2]at cA2
       obtain⟨e1,e2⟩:=hbad fun ho=>Q2 (fun k=>f2 (piece_trn.1 k).2) (ho _ (a1d.2 ⟨y,a0a hy,rfl⟩))
       rw[e1,e2]
       repeat' first|refine WY ?_|refine Dv 13 ?_|refine Dw 13 ?_|refine Dv 9 ?_|refine Dw 9 ?_|(apply S.indexO (o2:=aA.length*8);(iterate 4 exact rfl);omega;omega)|refine Zd5 hld ?_|refine Zd9 ?_|(apply T.ret;(first|change Cx Tryz.prog Tryz.f201 _ _ _ _ _ _|(dsimp only[Bq,Cv];change Cx Tryz.prog Tryz.f201 _ _ _ _ _ _));refine⟨.inr rfl,[_,_],.cons (.tmp rfl) (.cons (.tmp rfl) .nil),rfl,?_⟩;show Reg none _ _ _ _ _ _ _)|refine Zbc ?_|refine Zdm ?_|refine Zda ?_|refine Zdb ?_|refine Zdn ?_|refine Zdo ?_|refine Zbn ?_|refine V ?_|refine W2 ?_ ?_<;>intro hc
       all_goals exact D2 rfl rfl rfl
     ·rw[show Bg (A4 x 1000+y.f)=big from if_neg f1]at cA
      obtain⟨e1,e2⟩:=hbad fun ho=>Q2 (fun k=>f1 (piece_trn.1 k).1) (ho _ (a1d.2 ⟨y,a0a hy,rfl⟩))
      rw[e1,e2]
      repeat' first|refine WY ?_|refine Dv 13 ?_|refine Dw 13 ?_|refine Dv 9 ?_|refine Dw 9 ?_|(apply S.indexO (o2:=aA.length*8);(iterate 4 exact rfl);omega;omega)|refine Zd5 hld ?_|refine Zd9 ?_|(apply T.ret;(first|change Cx Tryz.prog Tryz.f201 _ _ _ _ _ _|(dsimp only[Bq,Cv];change Cx Tryz.prog Tryz.f201 _ _ _ _ _ _));refine⟨.inr rfl,[_,_],.cons (.tmp rfl) (.cons (.tmp rfl) .nil),rfl,?_⟩;show Reg none _ _ _ _ _ _ _)|refine Zbc ?_|refine Zdm ?_|refine Zda ?_|refine Zdb ?_|refine Zdn ?_|refine Zdo ?_|refine Zbn ?_|refine V ?_|refine W2 ?_ ?_<;>intro hc
      all_goals exact D2 rfl rfl rfl
    ·have h2:¬(j:Int)<((ws.map PcQ.row).length:Nat):=by omega
     rw[a0g (by rw[a0e];omega)]at hjo⊢
     rw[<-hK0]
     repeat' first|refine WY ?_|(apply T.ret;(first|change Cx Tryz.prog Tryz.f201 _ _ _ _ _ _|(dsimp only[Bq,Cv];change Cx Tryz.prog Tryz.f201 _ _ _ _ _ _));refine⟨.inr rfl,[_,_],.cons (.tmp rfl) (.cons (.tmp rfl) .nil),rfl,?_⟩;show Reg none _ _ _ _ _ _ _)|refine Zbc ?_|refine Zdm ?_|refine Zda ?_|refine Zdb ?_|refine Zdn ?_|refine Zdo ?_|refine V ?_|refine W2 ?_ ?_<;>intro hc
     all_goals(first|(change Next _ _ _ _ _ _)|(trace_state;fail))
     all_goals exact Next.go (i+1) ⟨by omega,fun j hj=>by
      by_cases ej:j=i
      ·subst ej;rw[hnew2];exact hjo
      ·exact hok j (by omega)⟩ (by omega) (by rw[show(((i+1:Nat):Int))=(i:Int)+1 by omega];exact CW) (.live rfl (.live rfl (.dead (.live (Bn _ _) .nil))))
 ·have h1:¬(i:Int)<((c.cues.map CueR.row).length:Nat):=by omega
  obtain rfl:i=c.cues.length:=by omega
  have hB:¬Qk h c sS k s:=fun⟨j,hj,hn⟩=>hn (hok j hj)
  have he:Fp h c sS k s=if 200<(Ik h c sS k s).length then 4 else 0:=if_neg hB
  have hown:=K0 (Ik h c sS k s)
  have hpL:Bm h c sS k s c.cues.length=Ik h c sS k s:=rfl
  unfold Ra
  rw[he]
  rw[hpL]at hpi⊢
  generalize Ik h c sS k s=O at*
  refine T.freeze 12 rfl rfl hown ?_
  have hlO:=lmA O PcQ.row
  by_cases hl:200<O.length
  ·have h3:((O.map PcQ.row).length:Int)>200:=by omega
   rw[if_pos hl,if_neg (by decide)]
   repeat' first|refine WY ?_|refine Zbn ?_|refine V ?_|refine W2 ?_ ?_<;>intro hc
   all_goals exact D2 rfl rfl rfl
  ·have h3:¬((O.map PcQ.row).length:Int)>200:=by omega
   rw[if_neg hl,if_pos rfl]
   repeat' first|refine WX ?_|refine W2 ?_ ?_<;>intro hc
   all_goals exact D2 rfl rfl rfl
theorem A2p(h:HouseR)(c:SheetR)(hf:h.fits)(hc:c.fits)(G:List Int)(hG:G.length<=4611686018427387904)(e0:alE h c G=0)(n:ByteArray)(hn:¬Aa h n<0):Fz 60 [A0 h.row,A0 c.row,.sl (G.map A1),.s n] (.tup [.sl ((Pa h c G n).map PcQ.row),.i (Bt h c G n)]):=by
 have cs:=Wn h c hf hc G hG e0
 have p:=(Hb e0).1
 have cn:=Gn h n hf.1
 obtain⟨s,hsi⟩:=Iu hn
 have hz:Aa h n=((L5 h n:Nat):Int):=by unfold L5;omega
 have hset:Io h n=some s:=hsi
 have hsk:h.sets[L5 h n]?=some s:=hsi
 have co:=A4c c (stL h c G) (B0 h c) (E6 h c G) (Ce h c _) (by have:=p.v.2.1;omega) hc.2.2 p.st p.ln
 have cp:=Aep h c G p hf hc hsk
 rw[hz]at cn
 unfold Pa Br Bt
 rw[hset]
 dsimp only
 generalize L5 h n=k at*
 have hk0:¬(k:Int)<0:=by omega
 by_cases ho:Jg c (stL h c G) (B0 h c)
 ·rw[decide_eq_true ho]at co
  simp only[ho,if_true]
  change Fn0 _ _ _ (.tup [.sl ((if Fp h c (stL h c G) k s=0 then Ik h c (stL h c G) k s else[]).map PcQ.row),_])at cp
  generalize(if Fp h c (stL h c G) k s=0 then Ik h c (stL h c G) k s else[])=O at*
  generalize Fp h c (stL h c G) k s=e at*
  generalize stL h c G=u1 at*
  generalize B0 h c=u2 at*
  refine Fo Tryz.func60 ?_
  repeat' first|refine WX ?_|refine W2 ?_ ?_<;>intro hc
  all_goals exact D2 rfl rfl rfl
 ·rw[decide_eq_false ho]at co
  simp only[ho,if_false]
  rw[if_neg (show ¬(13:Int)=0 by decide)]
  generalize stL h c G=u1 at*
  generalize B0 h c=u2 at*
  refine Fo Tryz.func60 ?_
  repeat' first|refine WY ?_|refine Zbn ?_|refine V ?_|refine W2 ?_ ?_<;>intro hc
  all_goals exact D2 rfl rfl rfl
end Go.Proofs.YtcaicpnepfjcmaaGreat
