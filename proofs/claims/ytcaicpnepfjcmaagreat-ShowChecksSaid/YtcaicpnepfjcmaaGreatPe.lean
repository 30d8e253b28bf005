/- Lemmas of the proof. -/
import Derived.Test.YtcaicpnepfjcmaaGreatOb
set_option linter.all false
set_option maxHeartbeats 64000000
namespace Go.Proofs.YtcaicpnepfjcmaaGreat
open Go Go.RowKit
def a8v:= @Tryz.func171
def b0x:= @Tryz.func28
theorem p4y{P:Program}{N:Nat}{c:Code}{Q:Exit->St->Prop}{tm:Tm}{H:AH}(s j b:Nat){n st:Nat}{cs:List AV}{rows:List (List Lf)}(hr:∀r∈rows,r.length=st)(hn:rows.length=n)(hs:H.at s=.live cs)(hj:cs[j]?=some (rT b st n))(hb:H.at b=rB (rows.flatten.map .lf) n)(hne:Nat.beq s b=false)(h:T P N c ⟨tm,(H.put b .dead).put s (.live (cs.set j (.sl rows)))⟩ Q):T P N c ⟨tm,H⟩ Q:=by
 subst hn
 have hne':¬s=b:=fun e=>by subst e;rw[a6p]at hne;cases hne
 cases rows with
 |nil=>exact T.kill b (p5q s j (by rw[p0e,if_neg hne'];exact hs) hj h) (by rw[hb];rfl)
 |cons r rows=>exact T.freezeH s j hs hj hb hne (OwnRows.of _ hr rfl) h
theorem L0(n:Int):Fz 111 [.i n] (A0 [.i n,.i 1]):=by
 refine Fo Tryz.func111 ?_
 repeat' first|refine W ?_|refine Zbj ?_|refine V ?_|refine W2 ?_ ?_<;>intro hc
 all_goals exact D4 rfl rfl rfl rfl rfl rfl
theorem A7z(q:Rat)(hq:Fits q):Fz 112 [A0 (frR q)] (.tup [.i (upI q),.i 0]):=Ah0 q hq
theorem A08(h:HouseR)(c:SheetR)(hf:h.fits)(hc:c.fits)(v:¬validP h c):Fz 108 [A0 h.row,A0 c.row] (.tup [.sl [],.i 1]):=by
 have cv:=Yh h c hf hc
 rw[decide_eq_false v]at cv
 refine Fo Tryz.func108 ?_
 repeat' first|refine WY ?_|(refine p0p 4 rfl ?_;apply T.ret;change Ao _ _ _ _ _)|refine V ?_|refine W2 ?_ ?_<;>intro hc
 all_goals exact D2 rfl rfl rfl
abbrev L7:Lf:=.sl []
abbrev trL(h:HouseR)(c:SheetR):List (List Lf):=(Cz h c (c.cues.length+1)).map Mr
noncomputable def plR(h:HouseR)(c:SheetR)(G:List Int):List Lf:=if Tz h c then[L7,L7,L7]else[.sl (trL h c),.sl ((srL c.cues (B0 h c) G).map A1),.sl ((B0 h c).map A1)]
theorem Wz{h:HouseR}{c:SheetR}{k:Nat}(hk:k<=c.cues.length):(trL h c)[((k:Nat):Int).toNat]?=some (Mr (B5 h c k)):=by
 rw[a0q]
 unfold trL Cz
 rw[a0d,a0d,a2u (by omega)];rfl
theorem M2{x:Rat}(h:Fits x):Bg x=frE x 0:=if_pos h
theorem Rx{x:Rat}(h:¬Fits x):Bg x=.tup [A0 [.i 0,.i 0],.i 5]:=if_neg h
theorem Afd(h:HouseR)(c:SheetR)(hf:h.fits)(hc:c.fits)(v:validP h c)(G:List Int)(hG:G.length<=4611686018427387904):Fz 56 [A0 h.row,A0 c.row,.sl (G.map A1)] (.tup [A0 (plR h c G),.i (mdE h c G)]):=by
 have ct:=A15 h c hf hc v
 have h60:c.cues.length<=60:=by have:=v.2.1;omega
 have hs60:h.sets.length<=60:=v.1.2.2.2.1
 have cs:=A1u h c v hc (B0 h c) G (by rw[Ce];omega) hG
 have hle:=lmA c.cues CueR.row
 have hlt0:(trL h c).length=c.cues.length+1:=by unfold trL Cz;rw[a0e,a0e,a3o]
 refine Fo Tryz.func56 ?_
 repeat' first|refine W ?_|refine Zc ct ?_|(apply S.build;(iterate 3 exact rfl))|refine V ?_|refine W2 ?_ ?_<;>intro hc
 refine T.kill 4 ?_
 refine T.kill 5 ?_
 refine p0c (fun k=>k<=c.cues.length/\∀j,j<k->Fits (msQ h c j)) (fun k=>c.cues.length-k) (fun k=>[(31,.i k),(30,.i (c.cues.map CueR.row).length),(29,.sl (c.cues.map CueR.row)),(8,.sl (trL h c)),(3,.ptr 0 0),(4,.ptr 1 0),(6,.ptr 2 0),(10,.ptr 3 0),(2,.sl (G.map A1))]) (fun k=>[.live (h.row.map .lf),.live (c.row.map .lf),.live [.val (.slice none 0 0),.val (.slice none 0 0),.val (.slice none 0 0)],.live [.sl (trL h c),.val (.slice none 0 0),rT 4 1 k],rB (A7 (E0 h c k)) k,.dead]) 0 ⟨a0k _,by intro j hj;omega⟩ CW CG ?_
 rintro k ⟨hk,hfit⟩
 by_cases hlt:k<c.cues.length
 ·have h1:(k:Int)<((c.cues.map CueR.row).length:Nat):=by omega
  obtain⟨q,hq⟩:=A2 hlt
  have hb:=A3 (R:=CueR.row) hq
  have hbt:=Wz (h:=h) hk
  have g:=F6 v hq
  have g0:F3 h (B5 h c k) q=0:=Ua ⟨g.house,g.right⟩ g.len g.trims
  have hqm:=hc.2.2 q (a0a hq)
  have cl:=A07 h (B5 h c k) q hf (by omega) (by rw[g.len];omega) g0
  have hfl:Fits (C9 h (B5 h c k) q.moves):=Ox g fun m hm=>hm
  have hms:1000*C9 h (B5 h c k) q.moves=msQ h c k:=by unfold msQ;rw[Si hq]
  have cw:=L0 1000
  have cm:=A30 1000 (C9 h (B5 h c k) q.moves) (Bx (n:=1000) (by omega) (by omega)) hfl
  change Fn0 _ _ [A0 [.i 1000,.i 1],_] _ at cm
  rw[hms]at cm
  have hsn:A7 (E0 h c (k+1))=A7 (E0 h c k)++([A1 (upI (msQ h c k))].flatten).map AV.lf:=by rw[Vw];simp[A7];rfl
  by_cases hff:Fits (msQ h c k)
  ·rw[M2 hff]at cm
   have ce:=A7z _ hff
   have hfit2:∀j,j<k+1->Fits (msQ h c j):=fun j hj=>by
    by_cases e:j=k
    ·subst e;exact hff
    ·exact hfit j (by omega)
   generalize C9 h (B5 h c k) q.moves=x at*
   generalize msQ h c k=y at*
   generalize upI y=z at*
   cases k with
   |zero=>
    repeat' first|refine WY ?_|(refine p0v (id:=11) A8 ?_)|refine Zbc ?_|refine Zd6 ?_|refine Zd4 ?_|refine Zbh ?_|refine Zdy ?_|(apply p0a (i:=0) (j:=1);decide+kernel;exact rfl;exact rfl)|(apply Ords.one (i:=0);decide+kernel;exact rfl)|(apply Ords.one (i:=1);decide+kernel;exact rfl)|(apply Ords.one (i:=2);decide+kernel;exact rfl)|(apply Ords.one (i:=6);decide+kernel;exact rfl)|(apply Ords.one (i:=7);decide+kernel;exact rfl)|refine Da ?_|refine Zb0 ?_|(apply p0q 4 (rows:=[]);(iterate 8 exact rfl);exact A9 rfl;exact rfl;exact a0c rfl;exact a0c rfl)|refine V ?_|refine W2 ?_ ?_<;>intro hc
    all_goals exact Next.go 1 ⟨by omega,hfit2⟩ (by omega) CW (by
     show CovH _ _ [_,_,_,_,.live (A7 (E0 h c (0+1))),_]
     rw[hsn]
     exact .live rfl CG)
   |succ k=>
    have hcl:(A7 (E0 h c (k+1))).length=(k+1)*1:=by rw[C8,Ce,a4g]
    repeat' first|refine WY ?_|(refine p0v (id:=11) A8 ?_)|refine Zbc ?_|refine Zd6 ?_|refine Zd4 ?_|refine Zbh ?_|refine Zdy ?_|(apply p0a (i:=0) (j:=1);decide+kernel;exact rfl;exact rfl)|(apply Ords.one (i:=0);decide+kernel;exact rfl)|(apply Ords.one (i:=1);decide+kernel;exact rfl)|(apply Ords.one (i:=2);decide+kernel;exact rfl)|(apply Ords.one (i:=6);decide+kernel;exact rfl)|(apply Ords.one (i:=7);decide+kernel;exact rfl)|refine Da ?_|refine Zb0 ?_|(refine Reg.blur 3 2 5 rfl rfl rfl ?_;apply p0h;(iterate 8 exact rfl);exact hcl;exact A9 rfl;exact rfl;exact Aj _ _;simp only[a0j,a0m];omega;simp only[a0j,a0m];omega)|refine V ?_|refine W2 ?_ ?_<;>intro hc
    all_goals exact Next.go (k+1+1) ⟨by omega,hfit2⟩ (by omega) CW (by
     show CovH _ _ [_,_,_,_,.live (A7 (E0 h c (k+1+1))),_]
     rw[hsn]
     exact .live rfl (.live rfl (.live rfl (.live rfl (.live (by rw[<-a1f];exact Ac _ _) (.dead .nil))))))
  ·have hB:Tz h c:=⟨k,hlt,hff⟩
   rw[show plR h c G=[L7,L7,L7]from if_pos hB,show mdE h c G=5 from if_pos hB]
   rw[Rx hff]at cm
   skip
   repeat' first|refine WY ?_|(refine p0v (id:=11) A8 ?_)|refine Zbc ?_|refine Zd6 ?_|refine Zd4 ?_|refine Zbh ?_|refine Zdy ?_|(apply p0a (i:=0) (j:=1);decide+kernel;exact rfl;exact rfl)|(apply Ords.one (i:=0);decide+kernel;exact rfl)|(apply Ords.one (i:=1);decide+kernel;exact rfl)|(apply Ords.one (i:=2);decide+kernel;exact rfl)|(apply Ords.one (i:=6);decide+kernel;exact rfl)|(apply Ords.one (i:=7);decide+kernel;exact rfl)|refine Da ?_|refine Zbj ?_|refine V ?_|refine W2 ?_ ?_<;>intro hc
   all_goals exact D3 rfl rfl rfl rfl rfl rfl rfl
 ·have h1:¬(k:Int)<((c.cues.map CueR.row).length:Nat):=by omega
  obtain rfl:k=c.cues.length:=by omega
  have hB:¬Tz h c:=fun⟨j,hj,hn⟩=>hn (hfit j hj)
  rw[show plR h c G=_ from if_neg hB,show mdE h c G=_ from if_neg hB]
  refine p4y 3 2 4 (rows:=(B0 h c).map A1) (Cd _) (by rw[a0e,Ce]) rfl rfl rfl rfl ?_
  generalize B0 h c=L at*
  generalize stE c.cues L G=e at*
  generalize srL c.cues L G=Z at*
  repeat' first|refine WY ?_|refine Dw 8 ?_|refine Dv 8 ?_|refine V ?_|refine W2 ?_ ?_<;>intro hc
  all_goals exact D3 rfl rfl rfl rfl rfl rfl rfl
theorem A3i(h:HouseR)(c:SheetR)(hf:h.fits)(hc:c.fits)(v:¬validP h c)(g:AV)(hg:∃G:List Int,g=.sl (G.map A1)):Fz 56 [A0 h.row,A0 c.row,g] (.tup [A0 [L7,L7,L7],.i 1]):=by
 obtain⟨G,rfl⟩:=hg
 have ct:=A08 h c hf hc v
 refine Fo Tryz.func56 ?_
 repeat' first|refine WY ?_|refine Zbj ?_|refine V ?_|refine W2 ?_ ?_<;>intro hc
 all_goals exact D3 rfl rfl rfl rfl rfl rfl rfl
/-! ### One contract for all sheets -/
noncomputable def alE(h:HouseR)(c:SheetR)(G:List Int):Int:=if validP h c then mdE h c G else 1
noncomputable def alR(h:HouseR)(c:SheetR)(G:List Int):List Lf:=if validP h c then plR h c G else[L7,L7,L7]
theorem Lz(h:HouseR)(c:SheetR)(hf:h.fits)(hc:c.fits)(G:List Int)(hG:G.length<=4611686018427387904):Fz 56 [A0 h.row,A0 c.row,.sl (G.map A1)] (.tup [A0 (alR h c G),.i (alE h c G)]):=by
 unfold alR alE
 by_cases v:validP h c
 ·rw[if_pos v,if_pos v];exact Afd h c hf hc v G hG
 ·rw[if_neg v,if_neg v];exact A3i h c hf hc v _ ⟨G,rfl⟩
theorem Hb{h:HouseR}{c:SheetR}{G:List Int}(e:alE h c G=0):PlanOk h c G/\alR h c G=[.sl (trL h c),.sl ((stL h c G).map A1),.sl ((B0 h c).map A1)]:=by
 unfold alE at e
 split at e
 ·rename_i v
  have p:=Aap v e
  refine⟨p,?_⟩
  unfold alR plR srL
  rw[if_pos v,if_neg p.fit]
  have h0:stE c.cues (B0 h c) G=0:=by
   have:=p.zero
   unfold mdE at this
   rwa[if_neg p.fit]at this
  rw[if_pos h0];rfl
 ·cases e
theorem Ahl(h:HouseR)(c:SheetR)(G:List Int):∃a b d:List (List Lf),alR h c G=[.sl a,.sl b,.sl d]:=by
 unfold alR plR
 split
 ·split
  ·exact⟨_,_,_,rfl⟩
  ·exact⟨_,_,_,rfl⟩
 ·exact⟨_,_,_,rfl⟩
def A0o(h:HouseR)(c:SheetR)(G:List Int)(k:Nat):List Lf:=[.s ((c.cues[k]?.map CueR.name).getD ⟨#[]⟩),.i ((stL h c G).getD k 0)]
def L2(h:HouseR)(c:SheetR)(G:List Int)(n:Nat):List (List Lf):=(List.range n).map (A0o h c G)
theorem A92(h:HouseR)(c:SheetR)(G:List Int)(n:Nat):L2 h c G (n+1)=L2 h c G n++[A0o h c G n]:=by simp[L2,a6w]
theorem A0s(h:HouseR)(c:SheetR)(G:List Int)(n:Nat):(L2 h c G n).length=n:=by simp[L2]
theorem A0t(h:HouseR)(c:SheetR)(G:List Int)(n:Nat):∀r∈L2 h c G n,r.length=2:=by
 intro r hr
 obtain⟨i,_,rfl⟩:=a1d.1 hr
 rfl
abbrev Pu(l:List (List Lf)):List AV:=l.flatten.map .lf
theorem Abx{l:List (List Lf)}{n st:Nat}(hr:∀r∈l,r.length=st)(hn:l.length=n):(Pu l).length=n*st:=by
 rw[a0e,Bc _ hr,hn]
theorem A83(l:List (List Lf))(r:List Lf):Pu (l++[r])=Pu l++([r].flatten).map AV.lf:=by simp[Pu]
theorem A8h(h:HouseR)(c:SheetR)(hf:h.fits)(hc:c.fits)(G:List Int)(hG:G.length<=4611686018427387904)(e0:alE h c G=0):Fz 35 [A0 h.row,A0 c.row,.sl (G.map A1)] (.tup [.sl (L2 h c G c.cues.length),.i 0]):=by
 have cm:=Lz h c hf hc G hG
 obtain⟨p,er⟩:=Hb e0
 rw[e0,er]at cm
 have h60:c.cues.length<=60:=by have:=p.v.2.1;omega
 have hle:=lmA c.cues CueR.row
 refine Fo Tryz.func35 ?_
 repeat' first|refine WY ?_|refine Da ?_|refine V ?_|refine W2 ?_ ?_<;>intro hc
 refine T.kill 3 ?_
 refine p0c (fun k=>k<=c.cues.length) (fun k=>c.cues.length-k) (fun k=>[(26,.i k),(25,.i (c.cues.map CueR.row).length),(24,.sl (c.cues.map CueR.row)),(10,rT 3 2 k),(8,.ptr 2 0)]) (fun k=>[.live (h.row.map .lf),.live (c.row.map .lf),.live [.sl (trL h c),.sl ((stL h c G).map A1),.sl ((B0 h c).map A1)],rB (Pu (L2 h c G k)) k]) 0 (a0k _) CW CG ?_
 intro k hk
 by_cases hlt:k<c.cues.length
 ·have h1:(k:Int)<((c.cues.map CueR.row).length:Nat):=by omega
  obtain⟨q,hq⟩:=A2 hlt
  have hb:=A3 (R:=CueR.row) hq
  obtain⟨x,hx⟩:=A2 (l:=stL h c G) (k:=k) (by rw[E6];exact hlt)
  have hb2:=A3 (R:=A1) hx
  have hR:A0o h c G k=[.s q.name,.i x]:=by unfold A0o;rw[hq,a0i,hx];rfl
  have hS:=A83 (L2 h c G k) (A0o h c G k)
  rw[<-A92,hR]at hS
  cases k with
  |zero=>
   repeat' first|refine WY ?_|refine Zb0 ?_|refine Zbr ?_|refine Dw 10 ?_|refine Dv 10 ?_|refine Zbj ?_|refine V ?_|refine W2 ?_ ?_<;>intro hc
   all_goals exact Next.go 1 (by omega) (by omega) CW (by
    show CovH _ _ [_,_,_,.live (Pu (L2 h c G (0+1)))]
    rw[hS];exact .live rfl CG)
  |succ k=>
   have hcl:=Abx (A0t h c G (k+1)) (A0s h c G (k+1))
   repeat' first|refine WY ?_|refine Zb0 ?_|refine Zb2 hcl ?_|refine Dw 10 ?_|refine Dv 10 ?_|refine Zbj ?_|refine V ?_|refine W2 ?_ ?_<;>intro hc
   all_goals exact Next.go (k+1+1) (by omega) (by omega) CW (by
    show CovH _ _ [_,_,_,.live (Pu (L2 h c G (k+1+1)))]
    rw[hS];exact .live rfl (.live rfl (.live rfl (.live (by rw[<-a1f];exact Ac _ _) .nil))))
 ·have h1:¬(k:Int)<((c.cues.map CueR.row).length:Nat):=by omega
  obtain rfl:k=c.cues.length:=by omega
  refine p2d 10 3 (rows:=L2 h c G c.cues.length) (A0t _ _ _ _) (A0s _ _ _ _) rfl rfl ?_
  repeat' first|refine WX ?_|refine W2 ?_ ?_<;>intro hc
  exact D2 rfl rfl rfl
theorem A3f(h:HouseR)(c:SheetR)(hf:h.fits)(hc:c.fits)(G:List Int)(hG:G.length<=4611686018427387904)(e0:¬alE h c G=0):Fz 28 [A0 h.row,A0 c.row,.sl (G.map A1)] (.tup [.sl [],.i (alE h c G)]):=by
 have cm:=Lz h c hf hc G hG
 obtain⟨a,b,d,er⟩:=Ahl h c G
 rw[er]at cm
 generalize alE h c G=e at*
 refine Fo b0x ?_
 repeat' first|refine WY ?_|refine Da ?_|refine Zb7 ?_|refine V ?_|refine W2 ?_ ?_<;>intro hc
 all_goals exact D2 rfl rfl rfl
theorem M6(l:List Int)(x:Int):A7 (l++[x])=A7 l++([A1 x].flatten).map AV.lf:=by simp[A7]
theorem A3h(h:HouseR)(c:SheetR)(hf:h.fits)(hc:c.fits)(G:List Int)(hG:G.length<=4611686018427387904)(e0:alE h c G=0)(hn:c.cues.length≠0):FnOwnT Tryz.prog 28 [A0 h.row,A0 c.row,.sl (G.map A1)] ((Dl h c G).map A1) 1 (.int .i64 0):=by
 have cm:=Lz h c hf hc G hG
 obtain⟨p,er⟩:=Hb e0
 rw[e0,er]at cm
 have h60:c.cues.length<=60:=by have:=p.v.2.1;omega
 have hle:((stL h c G).map A1).length=c.cues.length:=by rw[a0e,E6]
 refine FnOwnT.of b0x Tryz.ntmps28 rfl rfl rfl ?_
 simp only[Ak]
 repeat' first|refine WY ?_|refine Da ?_|refine V ?_|refine W2 ?_ ?_<;>intro hc
 refine T.kill 3 ?_
 refine p0c (fun k=>k<=c.cues.length) (fun k=>c.cues.length-k) (fun k=>[(26,.i k),(25,.i ((stL h c G).map A1).length),(24,.sl ((stL h c G).map A1)),(10,rT 3 1 k),(8,.ptr 2 0)]) (fun k=>[.live (h.row.map .lf),.live (c.row.map .lf),.live [.sl (trL h c),.sl ((stL h c G).map A1),.sl ((B0 h c).map A1)],rB (A7 (Ds h c G k)) k]) 0 (a0k _) CW CG ?_
 intro k hk
 by_cases hlt:k<c.cues.length
 ·have h1:(k:Int)<(((stL h c G).map A1).length:Nat):=by omega
  obtain⟨x,hx⟩:=A2 (l:=stL h c G) (k:=k) (by rw[E6];exact hlt)
  have hb:=A3 (R:=A1) hx
  obtain⟨y,hy⟩:=A2 (l:=B0 h c) (k:=k) (by rw[Ce];exact hlt)
  have hb2:=A3 (R:=A1) hy
  have r1:=p.st k
  have r2:=p.ln k
  have hV:Ie h c G k=x+y:=by unfold Ie;rw[a0i,a0i,hx,hy];rfl
  rw[a0i,hx]at r1
  rw[a0i,hy]at r2
  simp only[a1a]at r1 r2
  have hS:=M6 (Ds h c G k) (Ie h c G k)
  rw[<-Mz,hV]at hS
  cases k with
  |zero=>
   repeat' first|refine WY ?_|refine Zb0 ?_|refine Zbr ?_|refine V ?_|refine W2 ?_ ?_<;>intro hc
   all_goals exact Next.go 1 (by omega) (by omega) CW (by
    show CovH _ _ [_,_,_,.live (A7 (Ds h c G (0+1)))]
    rw[hS];exact .live rfl CG)
  |succ k=>
   have hcl:(A7 (Ds h c G (k+1))).length=(k+1)*1:=by rw[C8,Fe,a4g]
   repeat' first|refine WY ?_|refine Zb0 ?_|refine Zb2 hcl ?_|refine V ?_|refine W2 ?_ ?_<;>intro hc
   all_goals exact Next.go (k+1+1) (by omega) (by omega) CW (by
    show CovH _ _ [_,_,_,.live (A7 (Ds h c G (k+1+1)))]
    rw[hS];exact .live rfl (.live rfl (.live rfl (.live (by rw[<-a1f];exact Ac _ _) .nil))))
 ·have h1:¬(k:Int)<(((stL h c G).map A1).length:Nat):=by omega
  obtain rfl:k=c.cues.length:=by omega
  have hpos:0<c.cues.length:=by omega
  rw[Gf hpos,Ge hpos]
  repeat' first|refine WX ?_|refine W2 ?_ ?_<;>intro hc
  apply T.ret
  change V5 _ _ _ _ _ _ _
  have hll:((Dl h c G).map A1).length=c.cues.length:=by rw[a0e,Fe]
  refine⟨.inr rfl,3,.cons ?_ (.cons (.tmp rfl) .nil),rfl⟩
  rw[hll]
  exact .tmp rfl
theorem Afc(h:HouseR)(c:SheetR)(hf:h.fits)(hc:c.fits)(G:List Int)(hG:G.length<=4611686018427387904)(e0:alE h c G=0)(hn:True):Fz 28 [A0 h.row,A0 c.row,.sl (G.map A1)] (.tup [.sl ((Dl h c G).map A1),.i 0]):=by
 have cm:=Lz h c hf hc G hG
 obtain⟨p,er⟩:=Hb e0
 rw[e0,er]at cm
 have h60:c.cues.length<=60:=by have:=p.v.2.1;omega
 have hle:((stL h c G).map A1).length=c.cues.length:=by rw[a0e,E6]
 refine Fo b0x ?_
 repeat' first|refine WY ?_|refine Da ?_|refine V ?_|refine W2 ?_ ?_<;>intro hc
 refine T.kill 3 ?_
 refine p0c (fun k=>k<=c.cues.length) (fun k=>c.cues.length-k) (fun k=>[(26,.i k),(25,.i ((stL h c G).map A1).length),(24,.sl ((stL h c G).map A1)),(10,rT 3 1 k),(8,.ptr 2 0)]) (fun k=>[.live (h.row.map .lf),.live (c.row.map .lf),.live [.sl (trL h c),.sl ((stL h c G).map A1),.sl ((B0 h c).map A1)],rB (A7 (Ds h c G k)) k]) 0 (a0k _) CW CG ?_
 intro k hk
 by_cases hlt:k<c.cues.length
 ·have h1:(k:Int)<(((stL h c G).map A1).length:Nat):=by omega
  obtain⟨x,hx⟩:=A2 (l:=stL h c G) (k:=k) (by rw[E6];exact hlt)
  have hb:=A3 (R:=A1) hx
  obtain⟨y,hy⟩:=A2 (l:=B0 h c) (k:=k) (by rw[Ce];exact hlt)
  have hb2:=A3 (R:=A1) hy
  have r1:=p.st k
  have r2:=p.ln k
  have hV:Ie h c G k=x+y:=by unfold Ie;rw[a0i,a0i,hx,hy];rfl
  rw[a0i,hx]at r1
  rw[a0i,hy]at r2
  simp only[a1a]at r1 r2
  have hS:=M6 (Ds h c G k) (Ie h c G k)
  rw[<-Mz,hV]at hS
  cases k with
  |zero=>
   repeat' first|refine WY ?_|refine Zb0 ?_|refine Zbr ?_|refine V ?_|refine W2 ?_ ?_<;>intro hc
   all_goals exact Next.go 1 (by omega) (by omega) CW (by
    show CovH _ _ [_,_,_,.live (A7 (Ds h c G (0+1)))]
    rw[hS];exact .live rfl CG)
  |succ k=>
   have hcl:(A7 (Ds h c G (k+1))).length=(k+1)*1:=by rw[C8,Fe,a4g]
   repeat' first|refine WY ?_|refine Zb0 ?_|refine Zb2 hcl ?_|refine V ?_|refine W2 ?_ ?_<;>intro hc
   all_goals exact Next.go (k+1+1) (by omega) (by omega) CW (by
    show CovH _ _ [_,_,_,.live (A7 (Ds h c G (k+1+1)))]
    rw[hS];exact .live rfl (.live rfl (.live rfl (.live (by rw[<-a1f];exact Ac _ _) .nil))))
 ·have h1:¬(k:Int)<(((stL h c G).map A1).length:Nat):=by omega
  obtain rfl:k=c.cues.length:=by omega
  refine p2d 10 3 (rows:=(Dl h c G).map A1) (Cd _) (by rw[a0e,Fe]) rfl rfl ?_
  repeat' first|refine WX ?_|refine W2 ?_ ?_<;>intro hc
  exact D2 rfl rfl rfl
/-! ### The end of a show -/
theorem Adz{l:List Int}(x:Int)(h:l≠[]):mxL (l++[x])=max (mxL l) x:=by
 cases l with
 |nil=>exact absurd rfl h
 |cons y l=>
  show List.foldl max y (l++[x])=_
  rw[a2o];rfl
theorem A1y(l:List Int)(h0:l≠[])(hl:l.length<=1000000):Fz 29 [.sl (l.map A1)] (.i (mxL l)):=by
 have hle:=lmA l A1
 have hp:=a1i.2 h0
 have h1:¬((l.map A1).length:Int)<1:=by omega
 obtain⟨x,hx⟩:=A2 hp
 have hb0:(l.map A1)[(0:Int).toNat]?=some (A1 x):=A3 (k:=0) hx
 have hx1:mxL (l.take 1)=x:=by
  cases l with
  |nil=>exact absurd rfl h0
  |cons y l=>simp at hx;subst hx;rfl
 refine Fo Tryz.func29 ?_
 repeat' first|refine WX ?_|refine W2 ?_ ?_<;>intro hc
 refine p0c (fun k=>1<=k/\k<=l.length) (fun k=>l.length-k) (fun k=>[(4,.i k),(3,.i (mxL (l.take k))),(0,.sl (l.map A1))]) (fun _=>[]) 1 ⟨a0n _,hp⟩ (.cons rfl rfl (.cons (by rw[hx1];rfl) rfl (.cons rfl rfl .nil))) .nil ?_
 rintro k ⟨hk1,hk⟩
 by_cases hlt:k<l.length
 ·have h2:(k:Int)<((l.map A1).length:Nat):=by omega
  obtain⟨y,hy⟩:=A2 hlt
  have hb:=A3 (R:=A1) hy
  have hne:l.take k≠[]:=fun e=>by have:=congrArg List.length e;rw[a0x,a0m]at this;omega
  have hm:mxL (l.take (k+1))=max (mxL (l.take k)) y:=by rw[a0u,hy];exact Adz y hne
  repeat' first|refine WX ?_|refine W2 ?_ ?_<;>intro hc
  exact Next.go (k+1) ⟨by omega,by omega⟩ (by omega) (by rw[hm,show(((k+1:Nat):Int))=(k:Int)+1 by omega];exact CW) .nil
 ·have h2:¬(k:Int)<((l.map A1).length:Nat):=by omega
  rw[a0g (by omega)]
  repeat' first|refine WX ?_|refine W2 ?_ ?_<;>intro hc
  exact Dd rfl rfl rfl
theorem A3g(h:HouseR)(c:SheetR)(hf:h.fits)(hc:c.fits)(G:List Int)(hG:G.length<=4611686018427387904)(e0:alE h c G=0)(hn:c.cues.length=0):Fz 28 [A0 h.row,A0 c.row,.sl (G.map A1)] (.tup [.val (.slice none 0 0),.i 0]):=by
 have cm:=Lz h c hf hc G hG
 obtain⟨p,er⟩:=Hb e0
 rw[e0,er]at cm
 have h60:c.cues.length<=60:=by have:=p.v.2.1;omega
 have hle:((stL h c G).map A1).length=c.cues.length:=by rw[a0e,E6]
 refine Fo b0x ?_
 repeat' first|refine WY ?_|refine Da ?_|refine V ?_|refine W2 ?_ ?_<;>intro hc
 refine T.kill 3 ?_
 refine p0c (fun k=>k<=c.cues.length) (fun k=>c.cues.length-k) (fun k=>[(26,.i k),(25,.i ((stL h c G).map A1).length),(24,.sl ((stL h c G).map A1)),(10,rT 3 1 k),(8,.ptr 2 0)]) (fun k=>[.live (h.row.map .lf),.live (c.row.map .lf),.live [.sl (trL h c),.sl ((stL h c G).map A1),.sl ((B0 h c).map A1)],rB (A7 (Ds h c G k)) k]) 0 (a0k _) CW CG ?_
 intro k hk
 by_cases hlt:k<c.cues.length
 ·have h1:(k:Int)<(((stL h c G).map A1).length:Nat):=by omega
  obtain⟨x,hx⟩:=A2 (l:=stL h c G) (k:=k) (by rw[E6];exact hlt)
  have hb:=A3 (R:=A1) hx
  obtain⟨y,hy⟩:=A2 (l:=B0 h c) (k:=k) (by rw[Ce];exact hlt)
  have hb2:=A3 (R:=A1) hy
  have r1:=p.st k
  have r2:=p.ln k
  have hV:Ie h c G k=x+y:=by unfold Ie;rw[a0i,a0i,hx,hy];rfl
  rw[a0i,hx]at r1
  rw[a0i,hy]at r2
  simp only[a1a]at r1 r2
  have hS:=M6 (Ds h c G k) (Ie h c G k)
  rw[<-Mz,hV]at hS
  cases k with
  |zero=>
   repeat' first|refine WY ?_|refine Zb0 ?_|refine Zbr ?_|refine V ?_|refine W2 ?_ ?_<;>intro hc
   all_goals exact Next.go 1 (by omega) (by omega) CW (by
    show CovH _ _ [_,_,_,.live (A7 (Ds h c G (0+1)))]
    rw[hS];exact .live rfl CG)
  |succ k=>
   have hcl:(A7 (Ds h c G (k+1))).length=(k+1)*1:=by rw[C8,Fe,a4g]
   repeat' first|refine WY ?_|refine Zb0 ?_|refine Zb2 hcl ?_|refine V ?_|refine W2 ?_ ?_<;>intro hc
   all_goals exact Next.go (k+1+1) (by omega) (by omega) CW (by
    show CovH _ _ [_,_,_,.live (A7 (Ds h c G (k+1+1)))]
    rw[hS];exact .live rfl (.live rfl (.live rfl (.live (by rw[<-a1f];exact Ac _ _) .nil))))
 ·have h1:¬(k:Int)<(((stL h c G).map A1).length:Nat):=by omega
  obtain rfl:k=c.cues.length:=by omega
  rw[show rT 3 1 c.cues.length=.val (.slice none 0 0) by rw[hn];rfl]
  repeat' first|refine WX ?_|refine W2 ?_ ?_<;>intro hc
  exact D2 rfl rfl rfl
theorem Rj(h:HouseR)(c:SheetR)(hf:h.fits)(hc:c.fits)(G:List Int)(hG:G.length<=4611686018427387904)(e0:¬alE h c G=0):Fz 9 [A0 h.row,A0 c.row,.sl (G.map A1)] (.tup [.i 0,.i (alE h c G)]):=by
 have ce:=A3f h c hf hc G hG e0
 generalize alE h c G=e at*
 refine Fo Tryz.func9 ?_
 repeat' first|refine WX ?_|refine W2 ?_ ?_<;>intro hc
 all_goals exact D2 rfl rfl rfl
theorem A35(h:HouseR)(c:SheetR)(hf:h.fits)(hc:c.fits)(G:List Int)(hG:G.length<=4611686018427387904)(e0:alE h c G=0):Fz 9 [A0 h.row,A0 c.row,.sl (G.map A1)] (.tup [.i (endI h c G),.i 0]):=by
 have h60:=(Hb e0).1.v.2.1
 by_cases hn:c.cues.length=0
 ·have ce:=A3g h c hf hc G hG e0 hn
  have hE:endI h c G=mxL [0]:=by unfold endI Dl;rw[hn];rfl
  rw[hE]
  have cm:=A1y [0] (by simp) (by simp)
  refine Fo Tryz.func9 ?_
  repeat' first|refine WY ?_|refine Zb0 ?_|refine Zbk ?_|(apply S.callV;exact rfl;exact cm;exact .cons (.one (.own (cells:=[.i 0]) (rows:=[[.i 0]]) rfl (OwnRows.of [.i 0] (A9 rfl) rfl))) .nil;exact rfl;exact rfl)|refine V ?_|refine W2 ?_ ?_<;>intro hc
  all_goals exact D2 rfl rfl rfl
 ·have ce:=A3h h c hf hc G hG e0 hn
  have hEl:((Dl h c G).map A1).length=c.cues.length:=by rw[a0e,Fe]
  have cm:=A1y (Dl h c G++[0]) (by simp) (by rw[a0s,Fe];show c.cues.length+1<=1000000;omega)
  have hE:endI h c G=mxL (Dl h c G++[0]):=rfl
  rw[hE]
  have hown:OwnRows ((((Dl h c G).map A1).flatten.map AV.lf)++([A1 0].flatten).map AV.lf) 0 (((Dl h c G).map A1).length+1) 1 ((Dl h c G++[0]).map A1):=by
   have:=OwnRows.of ((Dl h c G++[0]).map A1).flatten (Cd _) rfl
   simpa using this
  generalize mxL (Dl h c G++[0])=z at*
  have hcl:((((Dl h c G).map A1).flatten.map AV.lf)).length=((Dl h c G).map A1).length*1:=by rw[a0e,Bc _ (Cd _)]
  generalize(Dl h c G++[0]).map A1=r2 at*
  have hrow:=Cd (Dl h c G)
  generalize(Dl h c G).map A1=r1 at*
  refine Fo Tryz.func9 ?_
  repeat' first|refine WY ?_|refine Zb0 ?_|(apply p2p 2 ce;(iterate 6 exact rfl);exact hrow)|refine Zb2 hcl ?_|(apply S.callV;exact rfl;exact cm;exact .cons (.one (.own rfl hown)) .nil;exact rfl;exact rfl)|refine V ?_|refine W2 ?_ ?_<;>intro hc
  all_goals exact D2 rfl rfl rfl
abbrev zM:List Lf:=[.s ⟨#[]⟩,.i 0,.i 0,.i 0,.i 0]
def mvA:Option MoveR->AV
 |some m=>.tup [A0 m.row,.b true]
 |none=>.tup [A0 zM,.b false]
theorem A8i(m:MoveR)(n:ByteArray):Fz 228 [A0 m.row,.rop [.s n]] (.b (decide (m.set=n))):=by
 refine Fo Tryz.func228 ?_
 repeat' first|refine WX ?_|refine W2 ?_ ?_<;>intro hc
 all_goals exact Dd rfl rfl (by rfl)
theorem Adx{q:CueR}{n:ByteArray}(h:mvI q n<0):mvO q n=none:=if_pos h
theorem Ady{q:CueR}{n:ByteArray}(h:¬mvI q n<0):∃m,q.moves[(mvI q n).toNat]?=some m/\mvO q n=some m:=by
 have h2:mvI q n<(q.moves.length:Nat):=Qv _ _
 obtain⟨m,hm⟩:=A2 (l:=q.moves) (k:=(mvI q n).toNat) (by omega)
 exact⟨m,hm,by unfold mvO;rw[if_neg h,hm]⟩
theorem Zz(q:CueR)(n:ByteArray)(hl:q.moves.length<=9223372036854775807):Fz 169 [A0 q.row,.s n] (mvA (mvO q n)):=by
 have hc:Fz 227 [.sl (q.moves.map MoveR.row),.fn (.func 228) [] [.rop [.s n]]] (.i (mvI q n)):=
  Qc q.moves MoveR.row (fun m=>m.set=n) _ _ (fun _=>rfl) hl rfl fun m _=>A8i m n
 by_cases h:mvI q n<0
 ·rw[Adx h]
  generalize mvI q n=i at*
  refine Fo Tryz.func169 ?_
  repeat' first|refine W ?_|(apply S.callV;exact rfl;exact hc;exact .cons (.one (.lf _)) (.cons (.fn (.cons (.ptr0 (cs:=[.s n]) rfl) .nil)) .nil);exact rfl;exact rfl)|refine Y ?_|refine V ?_|refine W2 ?_ ?_<;>intro hc
  all_goals exact D3 rfl rfl rfl rfl rfl rfl rfl
 ·obtain⟨m,hm,e⟩:=Ady h
  have hb:=Ft (R:=MoveR.row) hm
  rw[e]
  generalize mvI q n=i at*
  refine Fo Tryz.func169 ?_
  repeat' first|refine W ?_|(apply S.callV;exact rfl;exact hc;exact .cons (.one (.lf _)) (.cons (.fn (.cons (.ptr0 (cs:=[.s n]) rfl) .nil)) .nil);exact rfl;exact rfl)|refine Y ?_|refine V ?_|refine W2 ?_ ?_<;>intro hc
  all_goals exact D3 rfl rfl rfl rfl rfl rfl rfl
abbrev plA(Z:List (List Lf))(sS lL:List Int):List Lf:=[.sl Z,.sl (sS.map A1),.sl (lL.map A1)]
theorem A4k(c:SheetR)(Z:List (List Lf))(sS lL:List Int)(hS:sS.length=c.cues.length)(hL:lL.length=c.cues.length)(h60:c.cues.length<=60)(hm:∀q∈c.cues,q.moves.length<=140737488355328)(bS:∀i,0<=sS.getD i 0/\sS.getD i 0<=257698037760)(bL:∀i,0<=lL.getD i 0/\lL.getD i 0<=2147483648):
  Fz 90 [A0 (plA Z sS lL),A0 c.row] (.b (decide (Jg c sS lL))):=by
 have hle:=lmA c.cues CueR.row
 refine Fo Tryz.func90 ?_
 repeat' first|refine WX ?_|refine W2 ?_ ?_<;>intro hc
 refine p0c (fun i=>i<=c.cues.length/\∀i',i'<i->∀q,c.cues[i']?=some q->∀k r,k<i'->c.cues[k]?=some r->∀m∈q.moves,Ii c sS lL i' k q r m) (fun i=>c.cues.length-i) (fun i=>[(16,.i i),(15,.i (c.cues.map CueR.row).length),(14,.sl (c.cues.map CueR.row)),(2,.ptr 0 0),(3,.ptr 1 0)]) (fun _=>[.live ((plA Z sS lL).map .lf),.live (c.row.map .lf)]) 0 ⟨a0k _,by intro j hj;omega⟩ CW CH ?_
 rintro i ⟨hi,hall⟩
 by_cases hlt:i<c.cues.length
 ·have h1:(i:Int)<((c.cues.map CueR.row).length:Nat):=by omega
  obtain⟨q,hq⟩:=A2 hlt
  have hb:=A3 (R:=CueR.row) hq
  obtain⟨x,hx⟩:=A2 (l:=sS) (k:=i) (by omega)
  have hbx:=A3 (R:=A1) hx
  have hqm:=hm q (a0a hq)
  have hle2:((c.cues.map CueR.row).take ((i:Nat):Int).toNat).length=i:=by rw[a0x];omega
  have hle3:=lmA q.moves MoveR.row
  repeat' first|refine WY ?_|(apply p1o;(iterate 3 exact rfl);omega;(intro row hr;obtain⟨z,_,rfl⟩:=a1d.1 hr;rfl))|refine V ?_|refine W2 ?_ ?_<;>intro hc
  refine p0c (fun k=>k<=i/\∀k',k'<k->∀r,c.cues[k']?=some r->∀m∈q.moves,Ii c sS lL i k' q r m) (fun k=>i-k) (fun k=>[(26,.i k),(25,.i ((c.cues.map CueR.row).take ((i:Nat):Int).toNat).length),(24,.sl ((c.cues.map CueR.row).take ((i:Nat):Int).toNat)),(5,.i i),(6,.ptr 2 0),(16,.i i),(15,.i (c.cues.map CueR.row).length),(14,.sl (c.cues.map CueR.row)),(2,.ptr 0 0),(3,.ptr 1 0)]) (fun _=>[.live ((plA Z sS lL).map .lf),.live (c.row.map .lf),.live (q.row.map .lf)]) 0 ⟨a0k _,by intro j hj;omega⟩ CW CH ?_
  rintro k ⟨hk,hin⟩
  by_cases hlk:k<i
  ·have h2:(k:Int)<(((c.cues.map CueR.row).take ((i:Nat):Int).toNat).length:Nat):=by omega
   obtain⟨r,hr⟩:=A2 (l:=c.cues) (k:=k) (by omega)
   have hbr:((c.cues.map CueR.row).take ((i:Nat):Int).toNat)[((k:Nat):Int).toNat]?=some r.row:=by rw[a1o (by omega)];exact A3 hr
   obtain⟨y,hy⟩:=A2 (l:=sS) (k:=k) (by omega)
   have hby:=A3 (R:=A1) hy
   obtain⟨z,hz⟩:=A2 (l:=lL) (k:=k) (by omega)
   have hbz:=A3 (R:=A1) hz
   have by_:=bS k
   have bz:=bL k
   rw[a0i,hy]at by_
   rw[a0i,hz]at bz
   simp only[a1a]at by_ bz
   have hrm:=hm r (a0a hr)
   have hQ:∀m,Ii c sS lL i k q r m↔((mvO r m.set).isSome=true->y+z<=x):=fun m=>by
    unfold Ii
    rw[a0i,a0i,a0i,hx,hy,hz]
    rfl
   repeat' first|refine WY ?_|refine Da ?_|refine V ?_|refine W2 ?_ ?_<;>intro hc
   refine p0c (fun j=>j<=q.moves.length/\∀m∈q.moves.take j,Ii c sS lL i k q r m) (fun j=>q.moves.length-j) (fun j=>[(34,.i j),(33,.i (q.moves.map MoveR.row).length),(32,.sl (q.moves.map MoveR.row)),(7,.i k),(8,.ptr 3 0),(26,.i k),(25,.i ((c.cues.map CueR.row).take ((i:Nat):Int).toNat).length),(24,.sl ((c.cues.map CueR.row).take ((i:Nat):Int).toNat)),(5,.i i),(6,.ptr 2 0),(16,.i i),(15,.i (c.cues.map CueR.row).length),(14,.sl (c.cues.map CueR.row)),(2,.ptr 0 0),(3,.ptr 1 0)]) (fun _=>[.live ((plA Z sS lL).map .lf),.live (c.row.map .lf),.live (q.row.map .lf),.live (r.row.map .lf)]) 0 ⟨a0k _,by simp⟩ CW CH ?_
   rintro j ⟨hj,hjn⟩
   by_cases hlj:j<q.moves.length
   ·have h3:(j:Int)<((q.moves.map MoveR.row).length:Nat):=by omega
    obtain⟨m,hmj⟩:=A2 hlj
    have hbm:=A3 (R:=MoveR.row) hmj
    have cm:=Zz r m.set (by omega)
    by_cases ho:Ii c sS lL i k q r m
    ·have hnx:∀m'∈q.moves.take (j+1),Ii c sS lL i k q r m':=fun m' hm'=>by
      rw[a0u,hmj]at hm'
      rcases a0p.1 hm' with hm'|hm'
      ·exact hjn m' hm'
      ·obtain rfl:m'=m:=by simpa using hm'
       exact ho
     have ho2:=(hQ m).1 ho
     cases e:mvO r m.set with
     |none=>
      rw[e]at cm
      change Fn0 _ _ _ (.tup [A0 zM,.b false])at cm
      repeat' first|refine WY ?_|refine Da ?_|refine V ?_|refine W2 ?_ ?_<;>intro hc
      all_goals exact Next.go (j+1) ⟨by omega,hnx⟩ (by omega) (.cons (by rw[show(((j+1:Nat):Int))=(j:Int)+1 by omega];rfl) rfl CW) CH
     |some m'=>
      rw[e]at cm ho2
      change Fn0 _ _ _ (.tup [A0 m'.row,.b true])at cm
      have hn:¬x<y+z:=by have:=ho2 rfl;omega
      repeat' first|refine WY ?_|refine Da ?_|refine V ?_|refine W2 ?_ ?_<;>intro hc
      all_goals exact Next.go (j+1) ⟨by omega,hnx⟩ (by omega) (.cons (by rw[show(((j+1:Nat):Int))=(j:Int)+1 by omega];rfl) rfl CW) CH
    ·have hno:¬Jg c sS lL:=fun h=>ho (h i q hq k r hlk hr m (a0a hmj))
     rw[decide_eq_false hno]
     rw[hQ]at ho
     cases e:mvO r m.set with
     |none=>
      rw[e]at ho
      exact absurd (fun h=>by cases h) ho
     |some m'=>
      rw[e]at cm
      change Fn0 _ _ _ (.tup [A0 m'.row,.b true])at cm
      have hn:x<y+z:=by
       by_cases hh:x<y+z
       ·exact hh
       ·exact absurd (fun _=>by omega) ho
      repeat' first|refine WY ?_|refine Da ?_|refine V ?_|refine W2 ?_ ?_<;>intro hc
      all_goals exact Dd rfl rfl rfl
   ·have h3:¬(j:Int)<((q.moves.map MoveR.row).length:Nat):=by omega
    rw[a0g (by omega)]at hjn
    repeat' first|refine WY ?_|refine Da ?_|refine V ?_|refine W2 ?_ ?_<;>intro hc
    all_goals exact Next.go (k+1) ⟨by omega,fun k' hk' r' hr' m hm'=>by
     by_cases ek:k'=k
     ·subst ek
      rw[hr]at hr'
      injection hr' with hr'
      subst hr'
      exact hjn m hm'
     ·exact hin k' (by omega) r' hr' m hm'⟩ (by omega) (.cons (by rw[show(((k+1:Nat):Int))=(k:Int)+1 by omega];rfl) rfl CW) CH
  ·have h2:¬(k:Int)<(((c.cues.map CueR.row).take ((i:Nat):Int).toNat).length:Nat):=by omega
   repeat' first|refine WY ?_|refine Da ?_|refine V ?_|refine W2 ?_ ?_<;>intro hc
   all_goals exact Next.go (i+1) ⟨by omega,fun i' hi' q' hq' k' r' hk' hr' m hm'=>by
    by_cases ei:i'=i
    ·subst ei
     rw[hq]at hq'
     injection hq' with hq'
     subst hq'
     exact hin k' (by omega) r' hr' m hm'
    ·exact hall i' (by omega) q' hq' k' r' hk' hr' m hm'⟩ (by omega) (.cons (by rw[show(((i+1:Nat):Int))=(i:Int)+1 by omega];rfl) rfl CW) CH
 ·have h1:¬(i:Int)<((c.cues.map CueR.row).length:Nat):=by omega
  have hyes:Jg c sS lL:=fun i' q hq k r hk hr m hm=>hall i' (by have:=(a0f.1 hq).1;omega) q hq k r hk hr m hm
  rw[decide_eq_true hyes]
  repeat' first|refine WX ?_|refine W2 ?_ ?_<;>intro hc
  all_goals exact Dd rfl rfl rfl
theorem p5k{N:Nat}{ops:Array Oper}{m:Option Nat}{K:Tm->AH->Prop}{tm:Tm}{H:AH}{rest:List Oper}{ty:TypeId}{pos:String}{af:Array Edge}{d:Nat}{t:TypeId}{x:Operand}{P:Program}{a:Int}(hx:evT tm x=some (.val (.int .i64 a)))(h0: -9223372036854775808<a/\a<=9223372036854775807)(hN:LN d N)(h:Reg m P N ops rest ((d,.val (.int .i64 (-a)))::tm) H K):Reg m P N ops (⟨some d,.unOp .neg t x,ty,pos,af,none⟩::rest) tm H K:=
 S.val (OpV.neg rfl hx h0.1 h0.2) hN h
theorem Oy{q:Rat}(h:Fits q): -9223372036854775808<q.num/\q.num<=9223372036854775807:=by
 have:=h.1
 omega
theorem U8{q:Rat}(h:Fits q):Fits (-q):=⟨by rw[Rat.neg_num,Int.natAbs_neg];exact h.1,by rw[Rat.neg_den];exact h.2⟩
def Iy(s z:Int)(up:Prop)[Decidable up](x:PcQ):Prop:=Fits (A4 s 1000+x.f)/\(up->Fits ((z:Rat)+x.a))/\(¬up->Fits ((z:Rat)-x.a))
theorem Zs{s z:Int}{up:Prop}[Decidable up]{x:PcQ}(h:Iy s z up x)(hx:x.ok):(Af s z up x).ok:=by
 unfold Af
 split
 ·rename_i hu;exact⟨h.1,h.2.1 hu,hx.b,hx.c⟩
 ·rename_i hu;exact⟨h.1,h.2.2 hu,U8 hx.b,U8 hx.c⟩
theorem Q2{s z:Int}{up:Prop}[Decidable up]{x:PcQ}(h:¬Iy s z up x):¬(Af s z up x).ok:=fun k=>h (by
 unfold Af at k
 split at k
 ·rename_i hu;exact⟨k.f,fun _=>k.a,fun hn=>absurd hu hn⟩
 ·rename_i hu;exact⟨k.f,fun hn=>absurd hn hu,fun _=>k.a⟩)
theorem Ahx(u v b c:Rat):PcQ.row ⟨u,v,-b,-c⟩=[.i u.num,.i u.den,.i v.num,.i v.den,.i (-b.num),.i b.den,.i (-c.num),.i c.den]:=by simp[PcQ.row,Rat.neg_num,Rat.neg_den]
theorem Acj(x:PcQ)(s z:Int)(up:Prop)[Decidable up](hx:x.ok)(hs:0<=s/\s<=257698037760)(hz: -1048576<=z/\z<=1048576)(h:Iy s z up x):Fz 171 [A0 x.row,.i s,.i z,.b (decide up)] (.tup [A0 (Af s z up x).row,.i 0]):=by
 have fs:Fits (A4 s 1000):=Bu (by omega) (by omega) (by omega) (by omega)
 have fz:Fits (z:Rat):=Bx (by omega) (by omega)
 have c1:=Lm s 1000 (by decide) (by omega) (by omega) (by decide) (by decide) fs
 have c2:=Jl (A4 s 1000) x.f fs hx.f
 rw[M2 h.1]at c2
 have c3:=L0 z
 have nb:=Oy hx.b
 have nc:=Oy hx.c
 unfold Af
 by_cases hu:up
 ·have c4:=Jl (z:Rat) x.a fz hx.a
  rw[M2 (h.2.1 hu)]at c4
  change Fn0 _ _ [A0 [.i z,.i 1],_] _ at c4
  rw[if_pos hu,decide_eq_true hu]
  obtain⟨f,a,b,c⟩:=x
  dsimp only at*
  generalize A4 s 1000+f=u at*
  generalize(z:Rat)+a=v at*
  generalize A4 s 1000=w at*
  refine Fo a8v ?_
  repeat' first|refine WY ?_|(refine p0v (id:=8) A8 ?_)|refine Zbc ?_|refine Zdp ?_|refine Zdd ?_|refine Zdq ?_|refine Zbp ?_|refine Zde ?_|refine Zdf ?_|refine Zdl ?_|(apply p0a (i:=1) (j:=2);decide+kernel;exact rfl;exact rfl)|(apply p0a (i:=1) (j:=3);decide+kernel;exact rfl;exact rfl)|(apply Ords.one (i:=2);decide+kernel;exact rfl)|(apply Ords.one (i:=1);decide+kernel;exact rfl)|(apply Ords.one (i:=3);decide+kernel;exact rfl)|(apply Ords.one (i:=4);decide+kernel;exact rfl)|(apply Ords.one (i:=9);decide+kernel;exact rfl)|(apply Ords.one (i:=8);decide+kernel;exact rfl)|(apply Ords.one (i:=10);decide+kernel;exact rfl)|(apply Ords.one (i:=7);decide+kernel;exact rfl)|refine V ?_|refine W2 ?_ ?_<;>intro hc
  all_goals exact D3 rfl rfl rfl rfl rfl rfl rfl
 ·have c4:=Hs (z:Rat) x.a fz hx.a
  rw[M2 (h.2.2 hu)]at c4
  change Fn0 _ _ [A0 [.i z,.i 1],_] _ at c4
  rw[if_neg hu,decide_eq_false hu,Ahx]
  obtain⟨f,a,b,c⟩:=x
  dsimp only at*
  generalize A4 s 1000+f=u at*
  generalize(z:Rat)-a=v at*
  generalize A4 s 1000=w at*
  refine Fo a8v ?_
  repeat' first|refine WY ?_|(apply p5k;exact rfl;(first|exact nb|exact nc);exact rfl)|(refine p0v (id:=11) A8 ?_)|refine Zbc ?_|refine Zdp ?_|refine Zdd ?_|refine Zdq ?_|refine Zbp ?_|refine Zde ?_|refine Zdf ?_|refine Zdl ?_|(apply p0a (i:=1) (j:=2);decide+kernel;exact rfl;exact rfl)|(apply p0a (i:=1) (j:=3);decide+kernel;exact rfl;exact rfl)|(apply Ords.one (i:=2);decide+kernel;exact rfl)|(apply Ords.one (i:=1);decide+kernel;exact rfl)|(apply Ords.one (i:=3);decide+kernel;exact rfl)|(apply Ords.one (i:=4);decide+kernel;exact rfl)|(apply Ords.one (i:=9);decide+kernel;exact rfl)|(apply Ords.one (i:=8);decide+kernel;exact rfl)|(apply Ords.one (i:=10);decide+kernel;exact rfl)|(apply Ords.one (i:=7);decide+kernel;exact rfl)|refine V ?_|refine W2 ?_ ?_<;>intro hc
  all_goals exact D3 rfl rfl rfl rfl rfl rfl rfl
abbrev Aj7(a1 a2 a3 a4 a5 a6 a7 a8:Int):List Lf:=[.i a1,.i a2,.i a3,.i a4,.i a5,.i a6,.i a7,.i a8]
theorem A0e(x:PcQ)(s z:Int)(up:Prop)[Decidable up](hx:x.ok)(hs:0<=s/\s<=257698037760)(hz: -1048576<=z/\z<=1048576)(h:¬Iy s z up x):∃a1 a2 a3 a4 a5 a6 a7 a8:Int,Fz 171 [A0 x.row,.i s,.i z,.b (decide up)] (.tup [A0 (Aj7 a1 a2 a3 a4 a5 a6 a7 a8),.i 5]):=by
 have fs:Fits (A4 s 1000):=Bu (by omega) (by omega) (by omega) (by omega)
 have fz:Fits (z:Rat):=Bx (by omega) (by omega)
 have c1:=Lm s 1000 (by decide) (by omega) (by omega) (by decide) (by decide) fs
 have c2:=Jl (A4 s 1000) x.f fs hx.f
 have c3:=L0 z
 have nb:=Oy hx.b
 have nc:=Oy hx.c
 by_cases hf:Fits (A4 s 1000+x.f)
 ·rw[M2 hf]at c2
  by_cases hu:up
  ·have c4:=Jl (z:Rat) x.a fz hx.a
   have hn:¬Fits ((z:Rat)+x.a):=fun k=>h ⟨hf,fun _=>k,fun n=>absurd hu n⟩
   rw[Rx hn]at c4
   change Fn0 _ _ [A0 [.i z,.i 1],_] _ at c4
   rw[decide_eq_true hu]
   obtain⟨f,a,b,c⟩:=x
   dsimp only at*
   generalize A4 s 1000+f=u at*
   generalize A4 s 1000=w at*
   refine⟨u.num,u.den,0,0,b.num,b.den,c.num,c.den,?_⟩
   refine Fo a8v ?_
   repeat' first|refine WY ?_|(refine p0v (id:=8) A8 ?_)|refine Zbc ?_|refine Zdp ?_|refine Zdd ?_|refine Zdq ?_|refine Zbp ?_|refine Zde ?_|refine Zdf ?_|refine Zdl ?_|(apply p0a (i:=1) (j:=2);decide+kernel;exact rfl;exact rfl)|(apply p0a (i:=1) (j:=3);decide+kernel;exact rfl;exact rfl)|(apply Ords.one (i:=2);decide+kernel;exact rfl)|(apply Ords.one (i:=1);decide+kernel;exact rfl)|(apply Ords.one (i:=3);decide+kernel;exact rfl)|(apply Ords.one (i:=4);decide+kernel;exact rfl)|(apply Ords.one (i:=9);decide+kernel;exact rfl)|(apply Ords.one (i:=8);decide+kernel;exact rfl)|(apply Ords.one (i:=10);decide+kernel;exact rfl)|(apply Ords.one (i:=7);decide+kernel;exact rfl)|refine V ?_|refine W2 ?_ ?_<;>intro hc
   all_goals exact D3 rfl rfl rfl rfl rfl rfl rfl
  ·have c4:=Hs (z:Rat) x.a fz hx.a
   have hn:¬Fits ((z:Rat)-x.a):=fun k=>h ⟨hf,fun n=>absurd n hu,fun _=>k⟩
   rw[Rx hn]at c4
   change Fn0 _ _ [A0 [.i z,.i 1],_] _ at c4
   rw[decide_eq_false hu]
   obtain⟨f,a,b,c⟩:=x
   dsimp only at*
   generalize A4 s 1000+f=u at*
   generalize A4 s 1000=w at*
   refine⟨u.num,u.den,0,0,-b.num,b.den,-c.num,c.den,?_⟩
   refine Fo a8v ?_
   repeat' first|refine WY ?_|(apply p5k;exact rfl;(first|exact nb|exact nc);exact rfl)|(refine p0v (id:=11) A8 ?_)|refine Zbc ?_|refine Zdp ?_|refine Zdd ?_|refine Zdq ?_|refine Zbp ?_|refine Zde ?_|refine Zdf ?_|refine Zdl ?_|(apply p0a (i:=1) (j:=2);decide+kernel;exact rfl;exact rfl)|(apply p0a (i:=1) (j:=3);decide+kernel;exact rfl;exact rfl)|(apply Ords.one (i:=2);decide+kernel;exact rfl)|(apply Ords.one (i:=1);decide+kernel;exact rfl)|(apply Ords.one (i:=3);decide+kernel;exact rfl)|(apply Ords.one (i:=4);decide+kernel;exact rfl)|(apply Ords.one (i:=9);decide+kernel;exact rfl)|(apply Ords.one (i:=8);decide+kernel;exact rfl)|(apply Ords.one (i:=10);decide+kernel;exact rfl)|(apply Ords.one (i:=7);decide+kernel;exact rfl)|refine V ?_|refine W2 ?_ ?_<;>intro hc
   all_goals exact D3 rfl rfl rfl rfl rfl rfl rfl
 ·rw[Rx hf]at c2
  obtain⟨f,a,b,c⟩:=x
  dsimp only at*
  generalize A4 s 1000=w at*
  refine⟨0,0,0,0,0,0,0,0,?_⟩
  refine Fo a8v ?_
  repeat' first|refine WX ?_|refine W2 ?_ ?_<;>intro hc
  all_goals exact D3 rfl rfl rfl rfl rfl rfl rfl
theorem moveIn.range{h:HouseR}(hv:Bv h){m:MoveR}(hm:moveIn h m):0<=m.to/\m.to<=1048576:=by
 obtain⟨_,s,_,h3,h4,h5⟩:=hm
 obtain⟨_,_,_,_,_,hs,_⟩:=hv
 obtain⟨⟨_,_,s1,s2,s3,_⟩,_⟩:=hs s (a0a h3)
 omega
theorem Ng:∀(l:List PcQ)(i:Nat)(x y:PcQ),l[i]?=some x->Bk (i*8) (y.row.map .lf) (Ae l)=Ae (l.set i y)
 |[],i,x,v,h=>by simp at h
 |y::l,0,x,v,h=>by
  rw[a5f,C3,C3]
  simp[PcQ.row,Bk,G9]
 |y::l,i+1,x,v,h=>by
  rw[a5e,C3,C3,<-Ng l i x v (by simpa using h),show(i+1)*8=i*8+8 by omega]
  simp[PcQ.row,Bk]
theorem Vv{α:Type}{l:List α}(h:l≠[]):∃A x,l=A++[x]:=⟨l.dropLast,l.getLast h,(a5x h).symm⟩
theorem A0i(p q:Rat):(p.num=q.num/\(p.den:Int)=q.den)↔p=q:=⟨fun⟨h1,h2⟩=>Rat.ext h1 (by omega),fun h=>by subst h;exact⟨rfl,rfl⟩⟩
noncomputable def Ra(h:HouseR)(c:SheetR)(sS:List Int)(k:Nat)(s:SetR):List PcQ:=if Fp h c sS k s=0 then Ik h c sS k s else[]
theorem A5p{h:HouseR}{c:SheetR}{sS:List Int}{k i:Nat}{n:ByteArray}{q:CueR}(hq:c.cues[i]?=some q):Dt h c sS k n i=match mvO q n with|some m=>Jf (sS.getD i 0) ((B5 h c i).getD k 0) m|none=>[]:=by unfold Dt;rw[hq];rfl
theorem N2{α β:Type}(f:β->α->β)(a:β){l:List α}{j:Nat}{x:α}(h:l[j]?=some x):(l.take (j+1)).foldl f a=f ((l.take j).foldl f a) x:=by rw[a0u,h,a2o];rfl
theorem Afe(h:HouseR)(c:SheetR)(G:List Int)(p:PlanOk h c G)(hc:c.fits){k:Nat}{s:SetR}(hs:h.sets[k]?=some s):
  Fz 91 [A0 (plA (trL h c) (stL h c G) (B0 h c)),A0 h.row,A0 c.row,.i k] (.tup [.sl ((Ra h c (stL h c G) k s).map PcQ.row),.i (Fp h c (stL h c G) k s)]):=by
 have h60:=p.v.2.1
 have hs60:h.sets.length<=60:=p.v.1.2.2.2.1
 have hlk:=(a0f.1 hs).1
 have hbs:=A3 (R:=SetR.row) hs
 obtain⟨⟨_,_,s1,s2,s3,_⟩,_⟩:=p.v.1.2.2.2.2.2.1 s (a0a hs)
 have w0:=L0 0
 have w1:=L0 s.high
 have hle:=lmA c.cues CueR.row
 have hle2:=lmA h.sets SetR.row
 have hfs:Fits (s.high:Rat):=Bx (by omega) (by omega)
 have bS:=p.st
 have hSl:=E6 h c G
 have hle3:((stL h c G).map A1).length=c.cues.length:=by rw[a0e,hSl]
 have hle4:(trL h c).length=c.cues.length+1:=by unfold trL Cz;rw[a0e,a0e,a3o]
 generalize stL h c G=sS at*
 have hne:=Sn h c sS k s
 have hpl:=Uj h c sS k s
 refine Fo Tryz.func91 ?_
 repeat' first|refine WY ?_|refine Zbt ?_|refine Dw 12 ?_|refine V ?_|refine W2 ?_ ?_<;>intro hc
 refine T.kill 3 ?_
 refine p0c (fun i=>i<=c.cues.length/\∀j,j<i->okC (Dt h c sS k s.name j)) (fun i=>c.cues.length-i) (fun i=>[(39,.i i),(38,.i (c.cues.map CueR.row).length),(37,.sl (c.cues.map CueR.row)),(11,.own 4 0 (Bm h c sS k s i).length 8),(4,.ptr 0 0),(5,.ptr 1 0),(6,.ptr 2 0),(3,.i k)]) (fun i=>[.live ((plA (trL h c) sS (B0 h c)).map .lf),.live (h.row.map .lf),.live (c.row.map .lf),.dead,.live (Ae (Bm h c sS k s i))]) 0 ⟨a0k _,by intro j hj;omega⟩ CW CG ?_
 rintro i ⟨hi,hok⟩
 have hpi:=hpl i
 by_cases hlt:i<c.cues.length
 ·have h1:(i:Int)<((c.cues.map CueR.row).length:Nat):=by omega
  obtain⟨q,hq⟩:=A2 hlt
  have hb:=A3 (R:=CueR.row) hq
  have hbt:=Wz (h:=h) hi
  have g:=F6 p.v hq
  obtain⟨z,hz⟩:=A2 (l:=B5 h c i) (k:=k) (by rw[g.len];exact hlk)
  have hbz:=A3 (R:=A1) hz
  have hz1:=g.trims k z s hz hs
  obtain⟨x,hx⟩:=A2 (l:=sS) (k:=i) (by omega)
  have hbx:=A3 (R:=A1) hx
  have hqm:=hc.2.2 q (a0a hq)
  have cm:=Zz q s.name (by omega)
  have hnew:=A5p (h:=h) (sS:=sS) (k:=k) (n:=s.name) hq
  rw[a0i,a0i,hx,hz,a1a,a1a]at hnew
  have hlz:((B5 h c i).map A1).length=h.sets.length:=by rw[a0e,g.len]
  have hK0:Bm h c sS k s (i+1)=(Dt h c sS k s.name i).foldl Be (Bm h c sS k s i):=rfl
  have hne0:=hne i
  have hskip:Dt h c sS k s.name i=[]->Bm h c sS k s (i+1)=Bm h c sS k s i/\∀j,j<i+1->okC (Dt h c sS k s.name j):=fun e=>⟨by rw[hK0,e];rfl,fun j hj=>by
   by_cases ej:j=i
   ·subst ej;rw[e];intro p hp;cases hp
   ·exact hok j (by omega)⟩
  have hbad:¬okC (Dt h c sS k s.name i)->Ra h c sS k s=[]/\Fp h c sS k s=5:=fun hn=>by
   have hB:Qk h c sS k s:=⟨i,hlt,hn⟩
   have he:Fp h c sS k s=5:=if_pos hB
   exact⟨by unfold Ra;rw[he];exact if_neg (by decide),he⟩
  cases e:mvO q s.name with
  |none=>
   rw[e]at cm hnew
   change Fn0 _ _ _ (.tup [A0 zM,.b false])at cm
   obtain⟨hK,hok2⟩:=hskip hnew
   generalize Bm h c sS k s i=O at*
   repeat' first|refine WY ?_|refine Dw 13 ?_|refine V ?_|refine W2 ?_ ?_<;>intro hc
   all_goals(first|(change Next _ _ _ _ _ _)|(trace_state;fail))
   all_goals exact Next.go (i+1) ⟨by omega,hok2⟩ (by omega) (by rw[hK,show(((i+1:Nat):Int))=(i:Int)+1 by omega];exact CW) (by rw[hK];exact .live rfl (.live rfl (.live rfl (.dead (.live (Bn _ _) .nil)))))
  |some m=>
   rw[e]at cm hnew
   change Fn0 _ _ _ (.tup [A0 m.row,.b true])at cm
   by_cases ez:m.to=z
   ·have hnew2:Dt h c sS k s.name i=[]:=by rw[hnew];show Jf _ _ _=[];unfold Jf;rw[if_pos ez]
    obtain⟨hK,hok2⟩:=hskip hnew2
    generalize Bm h c sS k s i=O at*
    repeat' first|refine WY ?_|refine Dw 13 ?_|refine V ?_|refine W2 ?_ ?_<;>intro hc
    all_goals(first|(change Next _ _ _ _ _ _)|(trace_state;fail))
    all_goals exact Next.go (i+1) ⟨by omega,hok2⟩ (by omega) (by rw[hK,show(((i+1:Nat):Int))=(i:Int)+1 by omega];exact CW) (by rw[hK];exact .live rfl (.live rfl (.live rfl (.dead (.live (Bn _ _) .nil)))))
   ·have hmq:=Xq e
    obtain⟨_,_,_,_,_,hmv,_⟩:=g.right
    have hmi:=hmv m hmq
    have hmr:=hmi.range p.v.1
    have hmp:=hmi.1
    have hd:1<=max (m.to-z) (z-m.to)/\max (m.to-z) (z-m.to)<=1048576:=by omega
    have cc:=Wf _ m hmp hd
    rw[<-A7e]at cc
    have hcq:=Vf hmp hd
    have hql:=Ot (max (m.to-z) (z-m.to)) m
    have hnew2:Dt h c sS k s.name i=(D7 (max (m.to-z) (z-m.to)) m).map (Af x z (z<m.to)):=by rw[hnew];show Jf _ _ _=_;unfold Jf;rw[if_neg ez]
    rw[hnew2]at hK0 hbad
    generalize D7 (max (m.to-z) (z-m.to)) m=ws at*
    have hxr:0<=x/\x<=257698037760:=by have:=bS i;rw[a0i,hx]at this;simpa using this
    have hlw:=lmA ws PcQ.row
    have hstep:∀j y,ws[j]?=some y->((ws.map (Af x z (z<m.to))).take (j+1)).foldl Be (Bm h c sS k s i)=Be (((ws.map (Af x z (z<m.to))).take j).foldl Be (Bm h c sS k s i)) (Af x z (z<m.to) y):=fun j y hy=>N2 _ _ (by rw[a0d,hy];rfl)
    have hoj:∀j,((ws.map (Af x z (z<m.to))).take j).foldl Be (Bm h c sS k s i)≠[]:=fun j=>Ph _ _ hne0
    have hlj:∀j,(((ws.map (Af x z (z<m.to))).take j).foldl Be (Bm h c sS k s i)).length<=4*i+5:=fun j=>by
     have h1:=N9 ((ws.map (Af x z (z<m.to))).take j) (Bm h c sS k s i)
     have h2:((ws.map (Af x z (z<m.to))).take j).length<=ws.length:=by rw[a0x,a0e];omega
     omega
    repeat' first|refine WY ?_|refine Dw 13 ?_|refine V ?_|refine W2 ?_ ?_<;>intro hc
    refine T.kill 5 ?_
    refine p0c (fun j=>j<=ws.length/\okC ((ws.map (Af x z (z<m.to))).take j)) (fun j=>ws.length-j) (fun j=>[(90,.i j),(89,.i (ws.map PcQ.row).length),(88,.sl (ws.map PcQ.row)),(16,.i z),(14,.ptr 6 0),(12,.i i),(39,.i i),(38,.i (c.cues.map CueR.row).length),(37,.sl (c.cues.map CueR.row)),(11,.own 4 0 (((ws.map (Af x z (z<m.to))).take j).foldl Be (Bm h c sS k s i)).length 8),(4,.ptr 0 0),(5,.ptr 1 0),(6,.ptr 2 0),(3,.i k)]) (fun j=>[.live ((plA (trL h c) sS (B0 h c)).map .lf),.live (h.row.map .lf),.live (c.row.map .lf),.dead,.live (Ae (((ws.map (Af x z (z<m.to))).take j).foldl Be (Bm h c sS k s i))),.dead,.live (m.row.map .lf)]) 0 ⟨a0k _,by intro p hp;cases hp⟩ CW (.live rfl (.live rfl (.live rfl (.dead (.live (Bn _ _) CG))))) ?_
    rintro j ⟨hj,hjo⟩
    by_cases hlj2:j<ws.length
    ·have h2:(j:Int)<((ws.map PcQ.row).length:Nat):=by omega
     obtain⟨y,hy⟩:=A2 hlj2
     have hby:=A3 (R:=PcQ.row) hy
     have hyo:=hcq y (a0a hy)
     have hsj:=hstep j y hy
     have hlj3:=hlj j
     obtain⟨aA,l,hA⟩:=Vv (hoj j)
     have hlj4:(aA++[l]).length<=4*i+5:=by rw[<-hA];exact hlj3
     rw[hA]at hsj⊢
     have hln:(aA++[l]).length=aA.length+1:=by simp
     have hlg:(aA++[l])[aA.length]?=some l:=by simp
     have hld:=Nf _ _ _ hlg
     have hcl:=Az (aA++[l])
     by_cases hp:Iy x z (z<m.to) y
     ·have cp:=Acj y x z (z<m.to) hyo hxr (by omega) hp
      have hpo:=Zs hp hyo
      have hst:=Ng (aA++[l]) aA.length l (Af x z (z<m.to) y) hlg
      have hjo2:okC ((ws.map (Af x z (z<m.to))).take (j+1)):=by
       rw[a0u,a0d,hy]
       intro p' hp'
       rcases a0p.1 hp' with hp'|hp'
       ·exact hjo p' hp'
       ·obtain rfl:p'=Af x z (z<m.to) y:=by simpa using hp'
        exact hpo
      rw[show(aA++[l]).set aA.length (Af x z (z<m.to) y)=aA++[Af x z (z<m.to) y] by rw[a7l _ _ (a0n _),a6q];rfl]at hst
      generalize Af x z (z<m.to) y=v at*
      by_cases hf:l.f=v.f
      ·have hf2:=(A0i l.f v.f).2 hf
       rw[Rb _ _ _ hf]at hsj
       repeat' first|refine WY ?_|refine Dw 17 ?_|refine Da ?_|(apply S.indexO (o2:=aA.length*8);(iterate 4 exact rfl);omega;omega)|refine Zd5 hld ?_|refine Zd9 ?_|(apply p2c;(iterate 6 exact rfl);(rw[Az];omega))|refine V ?_|refine W2 ?_ ?_<;>intro hc
       all_goals(first|(change Next _ _ _ _ _ _)|(trace_state;fail))
       all_goals exact Next.go (j+1) ⟨by omega,hjo2⟩ (by omega) (by rw[hsj,show(aA++[v]).length=(aA++[l]).length by simp,show(((j+1:Nat):Int))=(j:Int)+1 by omega];exact CW) (by rw[hsj];exact .live rfl (.live rfl (.live rfl (.dead (p1v hst (Bn _ _) CG)))))
      ·have hf2:¬(l.f.num=v.f.num/\(l.f.den:Int)=v.f.den):=fun k=>hf ((A0i l.f v.f).1 k)
       rw[Uk _ _ _ hf]at hsj
       have happ:=Cg (aA++[l]) [v]
       repeat' first|refine WY ?_|refine Dw 17 ?_|refine Da ?_|(apply S.indexO (o2:=aA.length*8);(iterate 4 exact rfl);omega;omega)|refine Zd5 hld ?_|refine Zd9 ?_|refine Zb0 ?_|refine Zb2 hcl ?_|refine V ?_|refine W2 ?_ ?_<;>intro hc
       all_goals(first|(change Next _ _ _ _ _ _)|(trace_state;fail))
       all_goals exact Next.go (j+1) ⟨by omega,hjo2⟩ (by omega) (by rw[hsj,show(((j+1:Nat):Int))=(j:Int)+1 by omega,show(aA++[l]++[v]).length=(aA++[l]).length+1 by simp];exact CW) (by rw[hsj];exact .live rfl (.live rfl (.live rfl (.dead (p1v happ.symm (Bn _ _) CG)))))
     ·obtain⟨a1,a2,a3,a4,a5,a6,a7,a8,cp⟩:=A0e y x z (z<m.to) hyo hxr (by omega) hp
      obtain⟨e1,e2⟩:=hbad fun ho=>Q2 hp (ho _ (a1d.2 ⟨y,a0a hy,rfl⟩))
      rw[e1,e2]
      repeat' first|refine WY ?_|refine Dw 17 ?_|refine Zbn ?_|refine V ?_|refine W2 ?_ ?_<;>intro hc
      all_goals exact D2 rfl rfl rfl
    ·have h2:¬(j:Int)<((ws.map PcQ.row).length:Nat):=by omega
     rw[a0g (by rw[a0e];omega)]at hjo⊢
     rw[<-hK0]
     repeat' first|refine WX ?_|refine W2 ?_ ?_<;>intro hc
     all_goals(first|(change Next _ _ _ _ _ _)|(trace_state;fail))
     all_goals exact Next.go (i+1) ⟨by omega,fun j hj=>by
      by_cases ej:j=i
      ·subst ej;rw[hnew2];exact hjo
      ·exact hok j (by omega)⟩ (by omega) (by rw[show(((i+1:Nat):Int))=(i:Int)+1 by omega];exact CW) (.live rfl (.live rfl (.live rfl (.dead (.live (Bn _ _) .nil)))))
 ·have h1:¬(i:Int)<((c.cues.map CueR.row).length:Nat):=by omega
  obtain rfl:i=c.cues.length:=by omega
  have hB:¬Qk h c sS k s:=fun⟨j,hj,hn⟩=>hn (hok j hj)
  have he:Fp h c sS k s=if 200<(Ik h c sS k s).length then 4 else 0:=if_neg hB
  have hown:=K0 (Ik h c sS k s)
  have hpL:Bm h c sS k s c.cues.length=Ik h c sS k s:=rfl
  unfold Ra
  rw[he]
  rw[hpL]at hpi⊢
  generalize Ik h c sS k s=O at*
  refine T.freeze 11 rfl rfl hown ?_
  have hlO:=lmA O PcQ.row
  by_cases hl:200<O.length
  ·have h3:((O.map PcQ.row).length:Int)>200:=by omega
   rw[if_pos hl,if_neg (by decide)]
   repeat' first|refine WY ?_|refine Zbn ?_|refine V ?_|refine W2 ?_ ?_<;>intro hc
   all_goals exact D2 rfl rfl rfl
  ·have h3:¬((O.map PcQ.row).length:Int)>200:=by omega
   rw[if_neg hl,if_pos rfl]
   repeat' first|refine WX ?_|refine W2 ?_ ?_<;>intro hc
   all_goals exact D2 rfl rfl rfl
end Go.Proofs.YtcaicpnepfjcmaaGreat
