/- Lemmas of the proof. -/
import Derived.Test.YtcaicpnepfjcmaaGreatPh
set_option linter.all false
set_option maxHeartbeats 64000000
namespace Go.Proofs.YtcaicpnepfjcmaaGreat
open Go Go.RowKit
def b0z:= @Tryz.func61
def b1m:= @Tryz.func6
def hiT:Nat->AV
 |0=>.val (.slice none 0 0)
 |k+1=>.own 1 0 (k+1) 1
theorem Ah3{P:Program}{N:Nat}{c:Code}{Q:Exit->St->Prop}{tm:Tm}{H:AH}{h:HouseR}{k:Nat}(hk:k=h.sets.length)(ht:tm.get 3=some (hiT k))(hb:H.at 1=A0j h.sets k)(hT:T P N c ⟨(3,.sl ((Fh h).map A1))::tm,H.put 1 .dead⟩ Q):T P N c ⟨tm,H⟩ Q:=by
 cases k with
 |zero=>
  have h0:(Fh h).map A1=[]:=by rw[Fh,a0z hk.symm];rfl
  rw[h0]at hT
  exact p5m 3 ht (T.kill 1 hT (by rw[hb];rfl))
 |succ k=>exact T.freeze 3 ht hb (Z3 hk) hT
theorem Aen(h:HouseR)(hf:h.fits)(h60:h.sets.length<=60):Fz 218 [A0 h.row] (.sl ((Fh h).map A1)):=by
 have hle:=lmA h.sets SetR.row
 refine Fo Tryz.func218 ?_
 repeat' first|refine WX ?_|refine W2 ?_ ?_<;>intro hc
 refine T.kill 1 ?_
 refine p0c (fun k=>k<=h.sets.length) (fun k=>h.sets.length-k) (fun k=>[(4,.i k),(3,hiT k),(1,.ptr 0 0)]) (fun k=>[.live (h.row.map .lf),A0j h.sets k]) 0 (a0k _) CV CH ?_
 intro k hk
 by_cases hlt:k<h.sets.length
 ·have h1:(k:Int)<((h.sets.map SetR.row).length:Nat):=by omega
  obtain⟨x,hx⟩:=A2 hlt
  have hb:=A3 (R:=SetR.row) hx
  have hsn:=Ad hx
  cases k with
  |zero=>
   repeat' first|refine WY ?_|refine Zb0 ?_|refine Zbd ?_|refine V ?_|refine W2 ?_ ?_<;>intro hc
   exact Next.go 1 (by omega) (by omega) CV (by
    show CovH _ _ [_,.live (A7 ((h.sets.take (0+1)).map SetR.high))]
    rw[Kd hsn]
    exact .live rfl (.live rfl .nil))
  |succ k=>
   have hcl:(A7 ((h.sets.take (k+1)).map SetR.high)).length=(k+1)*1:=by rw[C8,a0e,a0x];omega
   repeat' first|refine WY ?_|refine Zb0 ?_|refine Zb2 hcl ?_|refine V ?_|refine W2 ?_ ?_<;>intro hc
   exact Next.go (k+2) (by omega) (by omega) CV (by
    show CovH _ _ [_,.live (A7 ((h.sets.take (k+1+1)).map SetR.high))]
    rw[Kd hsn]
    exact .live rfl (.live (by rw[<-a1f];exact Ac _ _) .nil))
 ·have h1:¬(k:Int)<((h.sets.map SetR.row).length:Nat):=by omega
  refine Ah3 (h:=h) (k:=k) (by omega) rfl rfl ?_
  repeat' first|refine WX ?_|refine W2 ?_ ?_<;>intro hc
  exact E5 (by first|exact .inl rfl|exact .inr rfl) Tryz.results218 rfl (.one (.one (.lf _)))
theorem A97(h:HouseR)(c:SheetR)(n k:Nat)(hk:k<n):(Fi h c n)[k]?=some (.lf (.sl ((B5 h c k).map A1))):=by
 have e:((Cz h c n).map Mr).flatten=(Cz h c n).map fun l=>Lf.sl (l.map A1):=by
  generalize Cz h c n=L
  induction L with
  |nil=>rfl
  |cons x L ih=>rw[a2g,a3v,ih];rfl
 rw[Fi,a0d,e,a0d,Cz,a0d,a2u hk]
 rfl
theorem Zd(h:HouseR)(c:SheetR)(hf:h.fits)(hc:c.fits)(v:validP h c):Fz 157 [A0 h.row,A0 c.row] (.sl ((Cz h c (c.cues.length+1)).map Mr)):=by
 obtain⟨_,_,_,hs60,_⟩:=v.1
 have hc60:=v.2.1
 have hle2:=lmA c.cues CueR.row
 have ch:=Aen h hf hs60
 refine Fo Tryz.func157 ?_
 repeat' first|refine WY ?_|refine Zbt ?_|refine V ?_|refine W2 ?_ ?_<;>intro hc
 refine p0c (fun k=>k<=c.cues.length) (fun k=>c.cues.length-k) (fun k=>[(6,.i k),(5,.own 2 0 (k+1) 1),(2,.ptr 0 0),(3,.ptr 1 0)]) (fun k=>[.live (h.row.map .lf),.live (c.row.map .lf),.live (Fi h c (k+1))]) 0 (a0k _) CV CH ?_
 intro j hj
 by_cases hlt2:j<c.cues.length
 ·have h2:(j:Int)<((c.cues.map CueR.row).length:Nat):=by omega
  obtain⟨y,hy⟩:=A2 hlt2
  have hb2:=A3 (R:=CueR.row) hy
  have cm:=Aba h (B5 h c j) y hf (by have:=hc.2.2 y (a0a hy);omega) (F6 v hy)
  rw[<-R4 hy]at cm
  have hct:=Vd h c (j+1)
  have hcell:(Fi h c (j+1))[0+((j:Nat):Int).toNat*1]?=some (.lf (.sl ((B5 h c j).map A1))):=by
   rw[a1n,a4g,a0q];exact A97 h c (j+1) j (by omega)
  repeat' first|refine WY ?_|refine Dv 13 ?_|refine Dw 13 ?_|refine Zb0 ?_|refine Zb2 hct ?_|(apply S.indexO;(iterate 4 exact rfl);omega;exact rfl)|refine Zb8 hcell ?_|refine V ?_|refine W2 ?_ ?_<;>intro hc
  exact Next.go (j+1) (by omega) (by omega) CV (by
   show CovH _ _ [_,_,.live (Fi h c (j+1+1))]
   rw[T8]
   exact .live rfl (.live rfl (.live (by rw[<-a1f];exact Ac _ _) .nil)))
 ·have h2:¬(j:Int)<((c.cues.map CueR.row).length:Nat):=by omega
  have hj2:j=c.cues.length:=by omega
  repeat' first|refine WX ?_|refine W2 ?_ ?_<;>intro hc
  refine E5 (by first|exact .inl rfl|exact .inr rfl) Tryz.results157 rfl (.one (.one (.own (cells:=Fi h c (j+1)) rfl ?_)))
  have:=OwnRows.of ((Cz h c (j+1)).map Mr).flatten (Uy _) rfl
  rw[a0e,Cz,a0e,a3o]at this
  rw[<-hj2]
  exact this
theorem A8g{α:Type}{a b:List α}{k:Nat}{x y:α}(h:a.take k=b.take k)(hx:a[k]?=some x)(hy:b[k]?=some y)(e:x=y):a.take (k+1)=b.take (k+1):=by rw[Ad hx,Ad hy,h,e]
theorem Xi(x y:ConR):eqC x.a x.b x.lo x.hi y.a y.b y.lo y.hi↔x=y:=by
 obtain⟨a,b,u,v⟩:=x
 obtain⟨a',b',u',v'⟩:=y
 simp[eqC]
instance :DecidableEq ConR:=fun x y=>decidable_of_iff _ (Xi x y)
theorem Vj(a b:List ConR)(ha:a.length<=1000000)(hb:b.length<=1000000):Fz 13 [.sl (a.map ConR.row),.sl (b.map ConR.row)] (.b (decide (a=b))):=by
 have hla:=lmA a ConR.row
 have hlb:=lmA b ConR.row
 by_cases hl:a.length=b.length
 ·have hl1:((a.map ConR.row).length:Int)=((b.map ConR.row).length:Nat):=by omega
  refine Fo Tryz.func13 ?_
  repeat' first|refine WX ?_|refine W2 ?_ ?_<;>intro hc
  refine p0c (fun k=>k<=a.length/\a.take k=b.take k) (fun k=>a.length-k) (fun k=>[(13,.i k),(12,.i (a.map ConR.row).length),(0,.sl (a.map ConR.row)),(1,.sl (b.map ConR.row))]) (fun _=>[]) 0 ⟨a0k _,rfl⟩ CW .nil ?_
  rintro k ⟨hk,heq⟩
  by_cases hlt:k<a.length
  ·have h1:(k:Int)<((a.map ConR.row).length:Nat):=by omega
   obtain⟨x,hx⟩:=A2 hlt
   obtain⟨y,hy⟩:=A2 (l:=b) (k:=k) (by omega)
   have hbx:=A3 (R:=ConR.row) hx
   have hby:=A3 (R:=ConR.row) hy
   by_cases e:eqC x.a x.b x.lo x.hi y.a y.b y.lo y.hi
   ·repeat' first|refine W ?_|refine Da ?_|refine Y ?_|(apply p4c rfl;(iterate 3 exact rfl))|(apply p4e rfl;(iterate 3 exact rfl))|refine V ?_|refine W2 ?_ ?_<;>intro hc
    all_goals exact Next.go (k+1) ⟨by omega,A8g heq hx hy ((Xi x y).1 e)⟩ (by omega) CW .nil
   ·repeat' first|refine W ?_|refine Da ?_|refine Y ?_|(apply p4c rfl;(iterate 3 exact rfl))|(apply p4e rfl;(iterate 3 exact rfl))|refine V ?_|refine W2 ?_ ?_<;>intro hc
    all_goals exact Dd rfl rfl (congrArg Value.bool (decide_eq_false fun k=>by subst k;rw[hx]at hy;injection hy with hy;exact e ((Xi x y).2 hy)).symm)
  ·have h1:¬(k:Int)<((a.map ConR.row).length:Nat):=by omega
   rw[a0g (by omega),a0g (by omega)]at heq
   repeat' first|refine WX ?_|refine W2 ?_ ?_<;>intro hc
   exact Dd rfl rfl (congrArg Value.bool (decide_eq_true heq).symm)
 ·have hl1:¬((a.map ConR.row).length:Int)=((b.map ConR.row).length:Nat):=by omega
  refine Fo Tryz.func13 ?_
  repeat' first|refine WX ?_|refine W2 ?_ ?_<;>intro hc
  all_goals exact Dd rfl rfl (congrArg Value.bool (decide_eq_false fun e=>hl (by rw[e])).symm)
/-! ### The example -/
abbrev sxS(n:ByteArray)(high hang:Int):SetR:=⟨n,0,0,high,4000,[0,4000],0,0,1,1,0,[⟨⟨#[120]⟩,0,4000,0,hang,10,10⟩],[]⟩
abbrev sxH(hang high:Int):HouseR:=⟨⟨#[104]⟩,9000,[sxS ⟨#[97]⟩ 5000 hang,sxS ⟨#[98]⟩ high 0],[]⟩
abbrev sxC:SheetR:=⟨[],[]⟩
theorem sx_sets:Cb (sxS ⟨#[97]⟩ 5000 1000)/\Cb (sxS ⟨#[98]⟩ 4500 0)/\Cb (sxS ⟨#[98]⟩ 4000 0)/\Cb (sxS ⟨#[98]⟩ 4001 0):=by
 refine⟨?_,?_,?_,?_⟩
 all_goals
  refine⟨by decide+kernel,by decide,by decide,by decide,by decide,by decide,by decide,?_,by decide,by decide,by decide,by decide,by decide,?_,?_⟩
  ·exact⟨by decide,by decide,by decide⟩
  ·refine⟨by decide,by decide,fun x hx=>?_,by simp⟩
   simp only[a1q,a2t,or_false]at hx
   subst hx
   exact⟨⟨by decide+kernel,by decide,by decide,by decide,by decide⟩,by decide,by decide,by decide⟩
  ·exact⟨by decide,by decide,by simp,by decide⟩
theorem sx_houses:Bv (sxH 1000 4500)/\Bv (sxH 1000 4000)/\Bv (sxH 1000 4001):=by
 refine⟨?_,?_,?_⟩
 all_goals
  refine⟨by decide+kernel,by decide,by decide,by decide,⟨by decide,by simp,by decide⟩,?_,by decide+kernel⟩
  intro s hs
  simp only[a1q,a2t,or_false]at hs
  rcases hs with rfl|rfl
  ·exact⟨sx_sets.1,by decide⟩
  ·exact⟨by first|exact sx_sets.2.1|exact sx_sets.2.2.1|exact sx_sets.2.2.2,by decide⟩
theorem Mq{h:HouseR}(hp:Bv h):validP h sxC:=⟨hp,by decide,fun i q h=>by simp at h,by decide,fun i p h=>by simp at h⟩
theorem Aha{h:HouseR}(v:validP h sxC):PlanOk h sxC []:=⟨v,fun⟨k,hk,_⟩=>by simp at hk,rfl,fun⟨x,hx,_⟩=>by simp[E0]at hx,fun⟨x,hx,_⟩=>by simp at hx⟩
theorem A0n{h:HouseR}(v:validP h sxC):alE h sxC []=0:=by
 unfold alE
 rw[if_pos v]
 exact(Aha v).zero
theorem Y3(hang high:Int):(sxH hang high).fits:=⟨a0c rfl,a0c rfl,fun s hs=>by
 simp only[a1q,a2t,or_false]at hs
 rcases hs with rfl|rfl<;>exact⟨a0c rfl,a0c rfl,a0c rfl⟩⟩
theorem Mp:sxC.fits:=⟨by decide,by decide,fun q hq=>by simp at hq⟩
theorem Acd{h:HouseR}{n:ByteArray}{s:SetR}(hs:Io h n=some s):Bt h sxC [] n=0/\Br h sxC [] n=[⟨0,(s.high:Rat),0,0⟩]:=by
 have ho:Jg sxC (stL h sxC []) (B0 h sxC):=fun i q hq=>by simp at hq
 have hb:¬Qk h sxC (stL h sxC []) (L5 h n) s:=fun⟨i,hi,_⟩=>by simp at hi
 unfold Bt Br
 rw[hs]
 refine⟨?_,rfl⟩
 show(if Jg sxC (stL h sxC []) (B0 h sxC)then Fp h sxC (stL h sxC []) (L5 h n) s else 13)=0
 rw[if_pos ho]
 unfold Fp
 rw[if_neg hb]
 rfl
theorem A37(p:PcQ):Ag [p]:=fun i hi=>by simp at hi
abbrev sxP:ByteArray×ByteArray:=(⟨#[97]⟩,⟨#[98]⟩)
theorem A8f(hang high:Int):ctR (sxH hang high) sxC [] sxP=pr3 (Jc (sxS ⟨#[97]⟩ 5000 hang) (sxS ⟨#[98]⟩ high 0) [⟨0,((5000:Int):Rat),0,0⟩] [⟨0,(high:Rat),0,0⟩] (Fg (sxH hang high) sxC [])):=by
 have h1:Io (sxH hang high) sxP.1=some (sxS ⟨#[97]⟩ 5000 hang):=rfl
 have h2:Io (sxH hang high) sxP.2=some (sxS ⟨#[98]⟩ high 0):=rfl
 obtain⟨a1,a2⟩:=Acd h1
 obtain⟨b1,b2⟩:=Acd h2
 unfold ctR
 rw[h1,h2]
 dsimp only
 rw[if_pos a1,if_pos b1,a2,b2]
 unfold frT
 rw[if_pos ⟨A37 _,A37 _⟩]
theorem A3b(hang high:Int)(hn:Cu (sxS ⟨#[97]⟩ 5000 hang) (sxS ⟨#[98]⟩ high 0)):De (sxH hang high)=[sxP]:=by
 show D1 [sxS ⟨#[97]⟩ 5000 hang,sxS ⟨#[98]⟩ high 0] 2=[sxP]
 simp[D1,Aq,hn]
theorem sx_con1:ckE (sxH 1000 4500) sxC []=0/\ckL (sxH 1000 4500) sxC []=[⟨⟨#[97]⟩,⟨#[98]⟩,0,0⟩]:=by
 have v:=Mq sx_houses.1
 have hp:=A3b 1000 4500 (by decide+kernel)
 have hc:ctR (sxH 1000 4500) sxC [] sxP=(0,0,0):=by rw[A8f];decide+kernel
 have he:Gy (sxH 1000 4500) sxC [] (De (sxH 1000 4500))=0:=Lv fun q hq=>by
  rw[hp]at hq
  obtain rfl:=a2s.1 hq
  unfold Cj;rw[hc];exact .inl rfl
 have e0:ckE (sxH 1000 4500) sxC []=0:=by unfold ckE;rw[if_pos (A0n v)];exact he
 refine⟨e0,?_⟩
 rw[(A0h e0).2,hp]
 unfold Ci
 simp[U2,hc]
theorem sx_con2:ckE (sxH 1000 4000) sxC []=0/\ckL (sxH 1000 4000) sxC []=[]:=by
 have v:=Mq sx_houses.2.1
 have hp:=A3b 1000 4000 (by decide+kernel)
 have hc:ctR (sxH 1000 4000) sxC [] sxP=(0,0,12):=by rw[A8f];decide+kernel
 have he:Gy (sxH 1000 4000) sxC [] (De (sxH 1000 4000))=0:=Lv fun q hq=>by
  rw[hp]at hq
  obtain rfl:=a2s.1 hq
  unfold Cj;rw[hc];exact .inr rfl
 have e0:ckE (sxH 1000 4000) sxC []=0:=by unfold ckE;rw[if_pos (A0n v)];exact he
 refine⟨e0,?_⟩
 rw[(A0h e0).2,hp]
 unfold Ci
 simp[U2,hc]
theorem sx_con3:ckE (sxH 1000 4001) sxC []=0/\(ckL (sxH 1000 4001) sxC []).length=1:=by
 have v:=Mq sx_houses.2.2
 have hp:=A3b 1000 4001 (by decide+kernel)
 have hc:ctR (sxH 1000 4001) sxC [] sxP=(0,0,0):=by rw[A8f];decide+kernel
 have he:Gy (sxH 1000 4001) sxC [] (De (sxH 1000 4001))=0:=Lv fun q hq=>by
  rw[hp]at hq
  obtain rfl:=a2s.1 hq
  unfold Cj;rw[hc];exact .inl rfl
 have e0:ckE (sxH 1000 4001) sxC []=0:=by unfold ckE;rw[if_pos (A0n v)];exact he
 refine⟨e0,?_⟩
 rw[(A0h e0).2,hp]
 unfold Ci
 simp[U2,hc]
theorem p3r{P:Program}{f:FuncId}{a b r:AV}(h:Fn0 P f [a,b,.sl []] r):Fn0 P f [a,b,.val (.slice none 0 0)] r:=⟨h.ent,fun L w vs hG hL hl hv=>h.run L w vs hG hL hl fun i x v hx hu=>by
 match i,hx with
 |0,hx=>exact hv 0 x v hx hu
 |1,hx=>exact hv 1 x v hx hu
 |2,hx=>
  simp only[a2l,a2f,a0h]at hx
  subst hx
  have:=(hv 2 _ v rfl hu).val_eq
  subst this
  exact .lf _ _ .slnil
 |i+3,hx=>simp at hx⟩
def Rw(n:Int):Prop:=n<0\/n>1099511627776
instance (n:Int):Decidable (Rw n):=by unfold Rw;exact inferInstance
theorem A3s(n:Int):Fz 66 [.i n] (.b (decide (Rw n))):=by
 refine Fo Tryz.func66 ?_
 repeat' first|refine WX ?_|refine W2 ?_ ?_<;>intro hc
 all_goals exact Dd rfl rfl (by simp[Rw, *])
theorem A1r(h:HouseR)(v:validP h sxC):Fz 36 [A0 sxC.row,.sl [],.sl []] (.tup [.sl [],.i 0]):=by
 have cl:=Qz h sxC v Mp
 have cw:=Jo [] Rw 66 (by simp) A3s
 rw[decide_eq_false (by simp)]at cw
 change Fn0 _ _ [.sl [],_] _ at cw
 have n1:¬¬((([]:List (List Lf)).length:Nat):Int)=((([]:List CueR).map CueR.row).length:Nat):=fun k=>k rfl
 refine Fo Tryz.func36 ?_
 repeat' first|refine WX ?_|refine W2 ?_ ?_<;>intro hc
 refine p0c (fun k:Nat=>k=0) (fun _=>0) (fun _=>[(46,.i 0),(45,.i 0),(44,.sl []),(9,.val (.slice none 0 0))]) (fun _=>[.live (sxC.row.map .lf)]) 0 rfl CW CG ?_
 intro k hk
 subst hk
 have h1:¬(0:Int)<0:=by decide
 repeat' first|refine WY ?_|refine Zb7 ?_|refine V ?_|refine W2 ?_ ?_<;>intro hc
 all_goals exact D2 rfl rfl rfl
theorem O6(h:HouseR)(hf:h.fits)(v:validP h sxC)(e:ckE h sxC []=0):Fz 14 [A0 h.row,A0 sxC.row,.sl []] (.tup [.b (decide ((ckL h sxC []).length=0)),.i 0]):=by
 have ck:=Kn h sxC hf Mp [] (by simp)
 rw[e]at ck
 have a0:=A0n v
 have cb:=A8h h sxC hf Mp [] (by simp) a0
 have ce:=Afc h sxC hf Mp [] (by simp) a0 trivial
 have cc:=A1r h v
 change Fn0 _ _ [_,_,.sl []] _ at ck
 change Fn0 _ _ [_,_,.sl []] (.tup [.sl [],_])at cb
 change Fn0 _ _ [_,_,.sl []] (.tup [.sl [],_])at ce
 have hle:((ckL h sxC []).map ConR.row).length=(ckL h sxC []).length:=a0e _
 generalize ckL h sxC []=LL at*
 by_cases hz:LL.length=0
 case' pos=>
  have hz2:((LL.map ConR.row).length:Int)=0:=by omega
  have hz3:((([]:List (List Lf)).length:Nat):Int)=0:=rfl
  rw[decide_eq_true hz]
 case' neg=>
  have hz2:¬((LL.map ConR.row).length:Int)=0:=by omega
  rw[decide_eq_false hz]
 all_goals
  refine Fo Tryz.func14 ?_
  repeat' first|refine WX ?_|refine W2 ?_ ?_<;>intro hc
  refine p0c (fun k:Nat=>k=0) (fun _=>0) (fun _=>[(49,.i 0),(48,.i 0),(47,.sl []),(12,.val (.slice none 0 0)),(13,.val (.slice none 0 0)),(4,.ptr 1 0),(8,.sl (LL.map ConR.row))]) (fun _=>[.live (h.row.map .lf),.live (sxC.row.map .lf)]) 0 rfl CW CG ?_
  intro k hk
  subst hk
  refine p0p 12 rfl ?_
  refine p0p 13 rfl ?_
  have h1:¬(0:Int)<0:=by decide
  repeat' first|refine WX ?_|refine W2 ?_ ?_<;>intro hc
  all_goals exact D2 rfl rfl rfl
theorem Ts(n:ByteArray)(high hang:Int):Fz 44 [.s n,.i high,.i hang] (A0 (sxS n high hang).row):=by
 refine Fo Tryz.func44 ?_
 repeat' first|refine W ?_|refine Zb4 ?_|refine Y ?_|refine V ?_|refine W2 ?_ ?_<;>intro hc
 all_goals exact⟨.inr rfl,[A0 (sxS n high hang).row],.cons (Res.row (sxS n high hang).row rfl rfl rfl rfl rfl) .nil,.one (.agg (show OutL _ _ ((sxS n high hang).row.map .lf)from C5 (sxS n high hang).row))⟩
theorem Q6(hang high:Int):Fz 18 [.i hang,.i high] (A0 (sxH hang high).row):=by
 have c1:=Ts ⟨#[97]⟩ 5000 hang
 have c2:=Ts ⟨#[98]⟩ high 0
 refine Fo Tryz.func18 ?_
 repeat' first|refine W ?_|refine Zb4 ?_|refine Y ?_|(apply S.callF;exact rfl;exact rfl;(first|exact c1|exact c2);exact rfl;exact rfl)|refine V ?_|refine W2 ?_ ?_<;>intro hc
 all_goals exact⟨.inr rfl,[A0 (sxH hang high).row],.cons (Res.row (sxH hang high).row rfl rfl rfl rfl rfl) .nil,.one (.agg (show OutL _ _ ((sxH hang high).row.map .lf)from C5 (sxH hang high).row))⟩
theorem Aa4:Fz 5 [] (.b true):=by
 have x1:=Q6 1000 4500
 have x2:=Q6 1000 4000
 have x3:=Q6 1000 4001
 have k1:=p3r (Kn (sxH 1000 4500) sxC (Y3 _ _) Mp [] (by simp))
 rw[sx_con1.1,sx_con1.2]at k1
 have k2:=p3r (O6 (sxH 1000 4000) (Y3 _ _) (Mq sx_houses.2.1) sx_con2.1)
 rw[sx_con2.2,decide_eq_true (by rfl)]at k2
 have k3:=p3r (O6 (sxH 1000 4001) (Y3 _ _) (Mq sx_houses.2.2) sx_con3.1)
 rw[sx_con3.2,decide_eq_false (by decide)]at k3
 have q1:=Vj [⟨⟨#[97]⟩,⟨#[98]⟩,0,0⟩] [⟨⟨#[97]⟩,⟨#[98]⟩,0,0⟩] (by simp) (by simp)
 rw[decide_eq_true rfl]at q1
 refine Fo Tryz.func5 ?_
 repeat' first|refine W ?_|refine Zb4 ?_|refine Y ?_|refine V ?_|refine W2 ?_ ?_<;>intro hc
 all_goals exact Dd rfl rfl rfl
def Mc(h:HouseR)(c:SheetR)(G:List Int):Prop:=¬(Rn h 4/\Rm c 6/\G.length<=100)
noncomputable instance (h:HouseR)(c:SheetR)(G:List Int):Decidable (Mc h c G):=Classical.propDecidable _
theorem Aa5(h:HouseR)(c:SheetR)(hf:h.fits)(hc:c.fits)(G:List Int):Fz 6 [A0 h.row,A0 c.row,.sl (G.map A1)] (.b (decide (Mc h c G))):=by
 have c1:=Ab6 h 4 (by decide) hf
 have c2:=Abc c 6 (by decide) hc
 have hle:=lmA G A1
 by_cases h1:Rn h 4
 ·rw[decide_eq_true h1]at c1
  by_cases h2:Rm c 6
  ·rw[decide_eq_true h2]at c2
   by_cases h3:((G.map A1).length:Int)>100
   ·rw[decide_eq_true (show Mc h c G from fun k=>by have:=k.2.2;omega)]
    refine Fo b1m ?_
    repeat' first|refine WX ?_|refine W2 ?_ ?_<;>intro hc
    all_goals exact Dd rfl rfl (congrArg Value.bool (decide_eq_true h3))
   ·rw[decide_eq_false (show ¬Mc h c G from fun k=>k ⟨h1,h2,by omega⟩)]
    refine Fo b1m ?_
    repeat' first|refine WX ?_|refine W2 ?_ ?_<;>intro hc
    all_goals exact Dd rfl rfl (congrArg Value.bool (decide_eq_false h3))
  ·rw[decide_eq_false h2]at c2
   rw[decide_eq_true (show Mc h c G from fun k=>h2 k.2.1)]
   refine Fo b1m ?_
   repeat' first|refine WX ?_|refine W2 ?_ ?_<;>intro hc
   all_goals exact Dd rfl rfl rfl
 ·rw[decide_eq_false h1]at c1
  rw[decide_eq_true (show Mc h c G from fun k=>h1 k.1)]
  refine Fo b1m ?_
  repeat' first|refine WX ?_|refine W2 ?_ ?_<;>intro hc
  all_goals exact Dd rfl rfl rfl
def gOk(a b:SetR)(x y:List PieceR)(n d:Int):Prop:=Cb a/\Cb b/\J9 x/\J9 y/\vF n d
def Ahz(a b:SetR)(x y:List PieceR)(n d:Int):Prop:=gOk a b x y n d/\0<=n/\A4 n d<=1099511627776
noncomputable instance (a b:SetR)(x y:List PieceR)(n d:Int):Decidable (Ahz a b x y n d):=Classical.propDecidable _
theorem Abh(a b:SetR)(x y:List PieceR)(n d:Int)(hfa:a.fits)(hfb:b.fits)(hx:x.length<=1000000000000000)(hy:y.length<=1000000000000000):
  ∃e:Int,Fz 61 [A0 a.row,A0 b.row,.sl (x.map PieceR.row),.sl (y.map PieceR.row),A0 [.i n,.i d]] (.i e)/\(e=0↔Ahz a b x y n d):=by
 have va:=Re a hfa
 have vb:=Re b hfb
 have vx:=Zm x hx
 have vy:=Zm y hy
 have vt:=Z9 n d
 have c0:=Co 1099511627776
 by_cases hg:gOk a b x y n d
 ·obtain⟨g1,g2,g3,g4,g5⟩:=hg
  have hg:gOk a b x y n d:=⟨g1,g2,g3,g4,g5⟩
  rw[decide_eq_true g1]at va
  rw[decide_eq_true g2]at vb
  rw[decide_eq_true g3]at vx
  rw[decide_eq_true g4]at vy
  rw[decide_eq_true g5]at vt
  obtain⟨f0,f1,f2⟩:=Hy g5
  have cm:=Fs (A4 n d) 1099511627776 f0 Yu
  have hrow:frR (A4 n d)=[.i n,.i d]:=by unfold frR;rw[f1,f2]
  rw[hrow]at cm
  change Fn0 _ _ [_,A0 [.i 1099511627776,.i 1]] _ at cm
  have k:=He (A4 n d) 1099511627776
  generalize Ay (A4 n d) 1099511627776=c at cm k
  by_cases h1:n<0
  ·refine⟨2,?_,⟨(fun h=>by cases h),fun h=>by have:=h.2.1;omega⟩⟩
   refine Fo b0z ?_
   repeat' first|refine WY ?_|refine Da ?_|refine V ?_|refine W2 ?_ ?_<;>intro hc
   all_goals exact Dd rfl rfl rfl
  ·by_cases h2:c>0
   ·refine⟨2,?_,⟨(fun h=>by cases h),fun h=>absurd h.2.2 (a2w.2 (k.1 h2))⟩⟩
    refine Fo b0z ?_
    repeat' first|refine WY ?_|refine Da ?_|refine V ?_|refine W2 ?_ ?_<;>intro hc
    all_goals exact Dd rfl rfl rfl
   ·refine⟨0,?_,⟨fun _=>⟨hg,by omega,a1j.1 fun h=>h2 (k.2 h)⟩,fun _=>rfl⟩⟩
    refine Fo b0z ?_
    repeat' first|refine WY ?_|refine Da ?_|refine V ?_|refine W2 ?_ ?_<;>intro hc
    all_goals exact Dd rfl rfl rfl
 ·refine⟨1,?_,⟨(fun h=>by cases h),fun h=>absurd h.1 hg⟩⟩
  refine Fo b0z ?_
  repeat' first|refine WX ?_|refine W2 ?_ ?_<;>intro hc
  all_goals first
   |exact Dd rfl rfl rfl
   |(exfalso;exact hg ⟨by assumption,by assumption,by assumption,by assumption,by assumption⟩)
def nmP(l:List SetR)(p:Int×Int):ByteArray×ByteArray:=((l[p.1.toNat]?.map SetR.name).getD ⟨#[]⟩,(l[p.2.toNat]?.map SetR.name).getD ⟨#[]⟩)
theorem Aai{l:List SetR}{i j:Int}{a b:SetR}(ha:l[i.toNat]?=some a)(hb:l[j.toNat]?=some b):nmP l (i,j)=(a.name,b.name):=by
 unfold nmP
 rw[ha,hb]
 rfl
structure IxOk(l:List SetR)(p:Int×Int):Prop where
 a:0<=p.1
 b:0<=p.2
 s:∃s1,l[p.1.toNat]?=some s1
 t:∃s2,l[p.2.toNat]?=some s2
theorem Aa2{l:List SetR}{k:Nat}{a:SetR}(ha:l[k]?=some a):∀j,(ixN l k a j).map (nmP l)=Aq l k a j/\∀p∈ixN l k a j,IxOk l p
 |0=>⟨rfl,by simp[ixN]⟩
 |j+1=>by
  obtain⟨h1,h2⟩:=Aa2 ha j
  rw[ixN,Aq]
  cases e:l[k+1+j]? with
  |none=>simp only[a1u];exact⟨h1,h2⟩
  |some b=>
   by_cases hn:Cu a b
   ·simp only[hn,if_true]
    refine⟨?_,fun p hp=>?_⟩
    ·rw[a1f,h1,a9g,Aai (a:=a) (b:=b) (by rw[a0q];exact ha) (by rw[a0q];exact e)]
    ·rcases a0p.1 hp with hp|hp
     ·exact h2 p hp
     ·obtain rfl:p=_:=a2s.1 hp
      exact⟨by dsimp only;omega,by dsimp only;omega,⟨a,by rw[Int.toNat_natCast];exact ha⟩,⟨b,by rw[Int.toNat_natCast];exact e⟩⟩
   ·simp only[hn,if_false,a1u]
    exact⟨h1,h2⟩
theorem A1n(l:List SetR):∀k,(ixK l k).map (nmP l)=D1 l k/\∀p∈ixK l k,IxOk l p
 |0=>⟨rfl,by simp[ixK]⟩
 |k+1=>by
  obtain⟨h1,h2⟩:=A1n l k
  rw[ixK,D1]
  cases e:l[k]? with
  |none=>simp only[a1u];exact⟨h1,h2⟩
  |some a=>
   obtain⟨h3,h4⟩:=Aa2 e (l.length-(k+1))
   refine⟨by rw[a1f,h1,h3],fun p hp=>?_⟩
   rcases a0p.1 hp with hp|hp
   ·exact h2 p hp
   ·exact h4 p hp
end Go.Proofs.YtcaicpnepfjcmaaGreat
