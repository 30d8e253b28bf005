/- Lemmas of the proof. -/
import Derived.Test.YtcaicpnepfjcmaaGreatOb
import Derived.Test.YtcaicpnepfjcmaaGreatNq
set_option linter.all false
set_option maxHeartbeats 64000000
namespace Go.Proofs.YtcaicpnepfjcmaaGreat
open Go Go.RowKit
def b0a:= @Tryz.func209
def b2j:= @List.mem_of_mem_drop
def Ij:List Rat->Rat->Nat
 |[],_=>0
 |x::l,t=>if x<t then Ij l t+1 else 0
theorem A2l:∀(l:List Rat)(t:Rat),Cq l t=if l[Ij l t]?=some t then l else l.take (Ij l t)++t::l.drop (Ij l t)
 |[],t=>by simp[Cq,Ij]
 |x::l,t=>by
  unfold Cq Ij
  by_cases h:x<t
  ·rw[if_pos h,if_pos h,A2l l t,a2l,a3t,a6k]
   split<;>rfl
  ·rw[if_neg h,if_neg h,a2f]
   by_cases e:x=t
   ·rw[if_pos e,if_pos (by rw[e])]
   ·rw[if_neg e,if_neg (by simpa using e)];rfl
theorem A5v:∀(l:List Rat)(t:Rat),Ij l t<=l.length
 |[],_=>a0n _
 |x::l,t=>by
  unfold Ij
  have:=A5v l t
  split<;>simp<;>omega
theorem A5w:∀(l:List Rat)(t:Rat)(k:Nat),k<Ij l t->∃x,l[k]?=some x/\x<t
 |[],_,k,h=>by simp[Ij]at h
 |x::l,t,0,h=>by
  unfold Ij at h
  by_cases hx:x<t
  ·exact⟨x,rfl,hx⟩
  ·rw[if_neg hx]at h;omega
 |x::l,t,k+1,h=>by
  unfold Ij at h
  by_cases hx:x<t
  ·rw[if_pos hx]at h
   exact A5w l t k (by omega)
  ·rw[if_neg hx]at h;omega
theorem A5u:∀(l:List Rat)(t:Rat)(x:Rat),l[Ij l t]?=some x->¬x<t
 |[],_,x,h=>by simp at h
 |y::l,t,x,h=>by
  unfold Ij at h
  by_cases hy:y<t
  ·rw[if_pos hy]at h
   exact A5u l t x (by simpa using h)
  ·rw[if_neg hy]at h
   simp at h
   subst h
   exact hy
theorem Ai9{cells:List AV}{len:Nat}{m:List Rat}(h:cells=fa m)(hl:len=m.length):OwnRows cells 0 len 2 (m.map frR):=by
 subst h hl
 exact A2a m
theorem A64(rows:List (List Lf)){l:List Rat}(h:rows=l.map frR):rows.flatten.all Lf.one=true:=by
 subst h
 rw[a0l]
 intro x hx
 obtain⟨r,hr,hxr⟩:=a7q.1 hx
 obtain⟨n,_,rfl⟩:=a1d.1 hr
 simp only[a1q,a2t,or_false]at hxr
 rcases hxr with rfl|rfl<;>rfl
theorem Hd{b:Nat}{cells:List AV}{r:List Lf}(h:cells.all (AV.clear b)=true):(cells++r.map AV.lf).all (AV.clear b)=true:=by
 rw[a2k,h,Aj];rfl
theorem Hc{cells:List AV}{len:Nat}{rows:List (List Lf)}(h:cells.length=len*2)(hr:∀row∈rows,row.length=2):(cells++rows.flatten.map AV.lf).length=(len+rows.length)*2:=by
 rw[a0s,a0e,Bc rows hr,h,a3u]
theorem A5y(l:List Rat)(t:Rat)(k:Nat)(cells:List AV)(h0:cells=[]):OwnRows (cells++((l.map frR).take ((k:Nat):Int).toNat).flatten.map AV.lf++([[Lf.val (.int .i64 t.num),Lf.val (.int .i64 (t.den:Int))]]:List (List Lf)).flatten.map AV.lf++((l.map frR).drop ((k:Nat):Int).toNat).flatten.map AV.lf) 0
  (0+((l.map frR).take ((k:Nat):Int).toNat).length+([[Lf.val (.int .i64 t.num),Lf.val (.int .i64 (t.den:Int))]]:List (List Lf)).length+((l.map frR).drop ((k:Nat):Int).toNat).length) 2 ((l.take k++t::l.drop k).map frR):=by
 subst h0
 rw[a0q]
 refine Ai9 ?_ ?_
 ·simp[fa,Cp,a6u,List.map_drop]
 ·simp
  omega
theorem Abz(l:List Rat)(t:Rat)(hl:∀q∈l,Fits q)(ht:Fits t)(hn:l.length<=1000000):Fz 208 [.sl (l.map frR),A0 (frR t)] (.sl ((Cq l t).map frR)):=by
 have hle:=lmA l frR
 have hpl:=A5v l t
 have hplt:=A5w l t
 have hpat:=A5u l t
 rw[A2l]
 generalize Ij l t=p at hpl hplt hpat⊢
 refine Fo Tryz.func208 ?_
 repeat' first|refine WX ?_|refine W2 ?_ ?_<;>intro hc
 refine p0c (fun k=>k<=p) (fun k=>p-k) (fun k=>[(5,.i k),(0,.sl (l.map frR)),(3,.ptr 0 0)]) (fun k=>[.live [.i t.num,.i t.den]]) 0 (a0k _) CV (.live rfl .nil) ?_
 intro k hk
 by_cases hkp:k<p
 ·obtain⟨x,hx,hxt⟩:=hplt k hkp
  have h1:(k:Int)<((l.map frR).length:Nat):=by omega
  have hb:(l.map frR)[((k:Nat):Int).toNat]?=some (frR x):=by rw[a0q,a0d,hx];rfl
  have c:=Fs x t (hl x (a0a hx)) ht
  have h3:Ay x t<0:=(Dr x t).2 hxt
  generalize Ay x t=cc at c h3
  repeat' first|refine WY ?_|refine Da ?_|refine V ?_|refine W2 ?_ ?_<;>intro hc
  exact Next.go (k+1) (by omega) (by omega) (.cons (by rw[show(((k+1:Nat):Int))=(k:Int)+1 by omega];rfl) rfl CV) (.live rfl .nil)
 ·obtain rfl:k=p:=by omega
  have hrt:∀row∈l.map frR,row.length=2:=Sc l
  have h1r:((l.map frR).take ((k:Nat):Int).toNat).flatten.all Lf.one=true:=A64 _ (l:=l.take k) (by rw[a0q,<-a6u])
  have h2r:((l.map frR).drop ((k:Nat):Int).toNat).flatten.all Lf.one=true:=A64 _ (l:=l.drop k) (by rw[a0q,<-List.map_drop])
  by_cases hkl:k<l.length
  ·obtain⟨x,hx⟩:∃x,l[k]?=some x:=⟨l[k],a0b hkl⟩
   have h1:(k:Int)<((l.map frR).length:Nat):=by omega
   have hb:(l.map frR)[((k:Nat):Int).toNat]?=some (frR x):=by rw[a0q,a0d,hx];rfl
   have c:=Fs x t (hl x (a0a hx)) ht
   have h3:¬Ay x t<0:=fun h=>hpat x hx ((Dr x t).1 h)
   generalize Ay x t=cc at c h3
   by_cases he:x.num=t.num/\(x.den:Int)=(t.den:Int)
   ·rw[if_pos (by rw[hx,Ow he])]
    repeat' first|refine WY ?_|refine Zd9 ?_|refine Da ?_|refine V ?_|refine W2 ?_ ?_<;>intro hc
    exact E5 (by simp) Tryz.results208 rfl (.one (.one (.lf _)))
   ·rw[if_neg (by rw[hx];intro e;injection e with e;exact P6 he e)]
    repeat' first|refine WY ?_|refine Zd9 ?_|(refine p0v (id:=6) A8 ?_)|refine Zby ?_|(apply p0f 2;exact rfl;decide+kernel;decide+kernel;decide+kernel;exact rfl;exact rfl)|(apply p0f 8;exact rfl;decide+kernel;decide+kernel;decide+kernel;exact rfl;exact rfl)|(apply p0f 9;exact rfl;decide+kernel;decide+kernel;decide+kernel;exact rfl;exact rfl)|(apply p2z 3;exact rfl;decide+kernel;decide+kernel;decide+kernel;(iterate 3 exact rfl);exact inferInstance;exact inferInstance;omega;exact hrt)|(apply p2n 10;exact rfl;decide+kernel;decide+kernel;decide+kernel;(iterate 3 exact rfl);exact inferInstance;exact inferInstance;omega;exact hrt)|(apply p0a (i:=0) (j:=5);decide+kernel;exact rfl;exact rfl)|(apply p0a (i:=0) (j:=6);decide+kernel;exact rfl;exact rfl)|(apply p0a (i:=4) (j:=5);decide+kernel;exact rfl;exact rfl)|(apply p0a (i:=4) (j:=6);decide+kernel;exact rfl;exact rfl)|(apply Ords.one (i:=0);decide+kernel;exact rfl)|(apply Ords.one (i:=4);decide+kernel;exact rfl)|(apply Ords.one (i:=5);decide+kernel;exact rfl)|(apply Ords.one (i:=6);decide+kernel;exact rfl)|(apply Ords.one (i:=7);decide+kernel;exact rfl)|(apply Ords.one (i:=11);decide+kernel;exact rfl)|(apply Ords.one (i:=12);decide+kernel;exact rfl)|refine Zbc ?_|refine Zb0 ?_|refine Zbt ?_|(apply p0h;(iterate 9 exact rfl);(intro row hr;exact hrt row (a3j hr));exact h1r;exact rfl;(simp;omega);(simp;omega))|(apply p0h;(iterate 8 exact rfl);exact Hc rfl (fun row hr=>hrt row (a3j hr));exact A9 rfl;exact rfl;exact Hd rfl;(simp;omega);(simp;omega))|(apply p0h;(iterate 8 exact rfl);exact Hc (Hc rfl (fun row hr=>hrt row (a3j hr))) (A9 rfl);(intro row hr;exact hrt row (b2j hr));exact h2r;exact Hd (Hd rfl);(simp;omega);(simp;omega))|refine Da ?_|refine V ?_|refine W2 ?_ ?_<;>intro hc
    all_goals exact⟨.inr rfl,[_],.cons (.tmp rfl) .nil,.one (.one (.own rfl (A5y l t k _ rfl)))⟩
  ·have h1:¬(k:Int)<((l.map frR).length:Nat):=by omega
   rw[if_neg (by rw[a0v (by omega)];simp)]
   repeat' first|refine WY ?_|(refine p0v (id:=6) A8 ?_)|refine Zby ?_|(apply p0f 2;exact rfl;decide+kernel;decide+kernel;decide+kernel;exact rfl;exact rfl)|(apply p0f 8;exact rfl;decide+kernel;decide+kernel;decide+kernel;exact rfl;exact rfl)|(apply p0f 9;exact rfl;decide+kernel;decide+kernel;decide+kernel;exact rfl;exact rfl)|(apply p2z 3;exact rfl;decide+kernel;decide+kernel;decide+kernel;(iterate 3 exact rfl);exact inferInstance;exact inferInstance;omega;exact hrt)|(apply p2n 10;exact rfl;decide+kernel;decide+kernel;decide+kernel;(iterate 3 exact rfl);exact inferInstance;exact inferInstance;omega;exact hrt)|(apply p0a (i:=0) (j:=5);decide+kernel;exact rfl;exact rfl)|(apply p0a (i:=0) (j:=6);decide+kernel;exact rfl;exact rfl)|(apply p0a (i:=4) (j:=5);decide+kernel;exact rfl;exact rfl)|(apply p0a (i:=4) (j:=6);decide+kernel;exact rfl;exact rfl)|(apply Ords.one (i:=0);decide+kernel;exact rfl)|(apply Ords.one (i:=4);decide+kernel;exact rfl)|(apply Ords.one (i:=5);decide+kernel;exact rfl)|(apply Ords.one (i:=6);decide+kernel;exact rfl)|(apply Ords.one (i:=7);decide+kernel;exact rfl)|(apply Ords.one (i:=11);decide+kernel;exact rfl)|(apply Ords.one (i:=12);decide+kernel;exact rfl)|refine Zbc ?_|refine Zb0 ?_|refine Zbt ?_|(apply p0h;(iterate 9 exact rfl);(intro row hr;exact hrt row (a3j hr));exact h1r;exact rfl;(simp;omega);(simp;omega))|(apply p0h;(iterate 8 exact rfl);exact Hc rfl (fun row hr=>hrt row (a3j hr));exact A9 rfl;exact rfl;exact Hd rfl;(simp;omega);(simp;omega))|(apply p0h;(iterate 8 exact rfl);exact Hc (Hc rfl (fun row hr=>hrt row (a3j hr))) (A9 rfl);(intro row hr;exact hrt row (b2j hr));exact h2r;exact Hd (Hd rfl);(simp;omega);(simp;omega))|refine Da ?_|refine V ?_|refine W2 ?_ ?_<;>intro hc
   all_goals exact⟨.inr rfl,[_],.cons (.tmp rfl) .nil,.one (.one (.own rfl (A5y l t k _ rfl)))⟩
section
variable {P:Program}{N:Nat}{ops:Array Oper}{m:Option Nat}{K:Tm->AH->Prop}{tm:Tm}{H:AH}{rest:List Oper}{ty:TypeId}{pos:String}{af:Array Edge}{d:Nat}{t:TypeId}{x y:Operand}
end
theorem Ho(r:Rat){e:Int}(h:e=0\/e=5):kE r e=0\/kE r e=5:=by
 rcases h with rfl|rfl
 ·by_cases hf:Fits r
  ·exact .inl (Cs hf)
  ·exact .inr (Dp hf)
 ·exact .inr (Ar r)
theorem A6r(p:PcQ)(u:Rat){e:Int}(h:e=0\/e=5):Ir p u e=0\/Ir p u e=5:=Ho _ (Ho _ (Ho _ (Ho _ h)))
theorem Ah5(p:PcQ)(u:Rat){e:Int}(h:e=0\/e=5):L9 p u e=0\/L9 p u e=5:=Ho _ (Ho _ (Ho _ h))
theorem Ahm(l:List PcQ)(t:Rat):atE l t 0=0\/atE l t 0=5:=by
 unfold atE
 split
 ·exact .inl rfl
 ·exact A6r _ _ (Ho _ (.inl rfl))
theorem A4r(l:List PcQ)(t:Rat):L1 l t 0=0\/L1 l t 0=5:=by
 unfold L1
 split
 ·exact .inl rfl
 ·exact Ah5 _ _ (Ho _ (.inl rfl))
theorem Mu(l:List PcQ)(t:Rat):Eu l t 5=5:=by
 unfold Eu
 split
 ·rfl
 ·rw[Ar,Nd,Kz]
theorem X5(l:List PcQ)(t:Rat):Eu l t 0=if atE l t 0=0 then L1 l t 0 else 5:=by
 unfold Eu atE L1
 by_cases h:pcI l t<0
 ·rw[if_pos h,if_pos h,if_pos h,if_pos rfl]
 ·rw[if_neg h,if_neg h,if_neg h]
  generalize A6 l (pcI l t).toNat=p
  rcases Ho (t-p.f) (.inl rfl)with e0|e0<;>rw[e0]
  ·rcases A6r p (kQ (t-p.f)) (.inl rfl)with e1|e1<;>rw[e1]
   ·rw[if_pos rfl]
   ·rw[if_neg (by decide),Kz]
  ·rw[Nd,Kz,if_neg (by decide)]
theorem Lp(l:List PcQ)(t:Rat):Eu l t 0=0\/Eu l t 0=5:=by
 rw[X5]
 split
 ·exact A4r l t
 ·exact .inr rfl
def atC(l:List PcQ)(t:Rat):Rat:=if pcI l t<0 then 0 else(A6 l (pcI l t).toNat).c
theorem A0r(l:List PcQ)(t:Rat):atP l t=⟨t,atQ l t,atS l t,atC l t⟩:=by
 unfold atP atC
 by_cases h:pcI l t<0
 ·rw[if_pos h,if_pos h]
  unfold atQ atS
  rw[if_pos h,if_pos h]
 ·rw[if_neg h,if_neg h]
theorem A66{q:Rat}{e:Int}(h:e=0):K5 q e=frE q 0:=if_pos h
theorem A6a(l:List PcQ)(t:Rat)(hl:okC l)(h0:l≠[])(hs:Ag l)(hn:l.length<=1000)(ht:Fits t):∃y:PieceR,Fz 209 [.sl (l.map PcQ.row),A0 (frR t)] (.tup [A0 y.row,.i (Eu l t 0)])/\(Eu l t 0=0->y.row=(atP l t).row):=by
 have cp:=Mo l t hl hn ht
 have c1:=A84 l t hl h0 hs ht
 have c2:=Aey l t hl h0 hs ht
 have co:=Co 0
 rw[<-Xs hs t]at cp c1 c2
 rw[X5,A0r]
 have hC:∀k:Int,pcI l t=k->0<=k->l[k.toNat]?=some (A6 l (pcI l t).toNat):=fun k hk h=>by subst hk;exact O1 (by omega)
 have hCv:0<=pcI l t->atC l t=(A6 l (pcI l t).toNat).c:=fun h=>if_neg (by omega)
 have hCn:pcI l t<0->atC l t=0:=fun h=>if_pos h
 have hSn:pcI l t<0->L1 l t 0=0:=fun h=>by unfold L1;rw[if_pos h]
 have hAn:pcI l t<0->atE l t 0=0:=fun h=>by unfold atE;rw[if_pos h]
 generalize A6 l (pcI l t).toNat=x at hC hCv
 generalize pcI l t=k at cp c1 c2 hC hCv hCn hSn hAn
 replace hC:=hC k rfl
 rcases Ahm l t with e1|e1
 ·rw[e1,if_pos rfl]
  rw[e1,A66 rfl]at c1
  rcases A4r l t with e2|e2
  ·rw[e2,A66 rfl]at c2
   rw[e2]
   generalize atQ l t=q at c1⊢
   generalize atS l t=s at c2⊢
   refine⟨⟨t.num,t.den,q.num,q.den,s.num,s.den,(atC l t).num,(atC l t).den⟩,?_,fun _=>rfl⟩
   by_cases hk:0<=k
   ·have hb:(l.map PcQ.row)[k.toNat]?=some x.row:=by rw[a0d,hC hk];rfl
    have hkl:k.toNat<(l.map PcQ.row).length:=(a0f.1 hb).1
    rw[hCv hk]
    refine Fo b0a ?_
    repeat' first|refine WY ?_|refine Da ?_|refine Dv 5 ?_|refine V ?_|refine W2 ?_ ?_<;>intro hc
    exact D3 rfl rfl rfl rfl rfl rfl rfl
   ·have hk':¬¬¬0<=k:=fun h=>h hk
    rw[hCn (by omega)]
    refine Fo b0a ?_
    repeat' first|refine WY ?_|refine Da ?_|refine Dv 5 ?_|refine V ?_|refine W2 ?_ ?_<;>intro hc
    exact D3 rfl rfl rfl rfl rfl rfl rfl
  ·rw[e2,Iz]at c2
   unfold big at c2
   rw[e2]
   have hk:0<=k:=by
    rcases a5q k 0 with h|h
    ·rw[hSn h]at e2;cases e2
    ·exact h
   generalize atQ l t=q at c1⊢
   have hb:(l.map PcQ.row)[k.toNat]?=some x.row:=by rw[a0d,hC hk];rfl
   have hkl:k.toNat<(l.map PcQ.row).length:=(a0f.1 hb).1
   refine⟨⟨t.num,t.den,q.num,q.den,0,0,x.c.num,x.c.den⟩,?_,fun h=>by cases h⟩
   skip
   refine Fo b0a ?_
   repeat' first|refine WY ?_|refine Da ?_|refine Dv 5 ?_|refine V ?_|refine W2 ?_ ?_<;>intro hc
   exact D3 rfl rfl rfl rfl rfl rfl rfl
 ·rw[e1,Iz]at c1
  unfold big at c1
  rw[e1,if_neg (by decide)]
  have hk:0<=k:=by
   rcases a5q k 0 with h|h
   ·rw[hAn h]at e1;cases e1
   ·exact h
  have hb:(l.map PcQ.row)[k.toNat]?=some x.row:=by rw[a0d,hC hk];rfl
  have hkl:k.toNat<(l.map PcQ.row).length:=(a0f.1 hb).1
  refine⟨⟨t.num,t.den,0,0,0,0,x.c.num,x.c.den⟩,?_,fun h=>by cases h⟩
  skip
  refine Fo b0a ?_
  repeat' first|refine WY ?_|refine Da ?_|refine Dv 5 ?_|refine V ?_|refine W2 ?_ ?_<;>intro hc
  exact D3 rfl rfl rfl rfl rfl rfl rfl
theorem Ag6(op:Rat->Rat->Rat)(a b:List PcQ)(t:Rat):jE op a b t 5=5:=by simp only[jE,Mu,Ar]
theorem A1o(op:Rat->Rat->Rat)(a b:List PcQ)(l:List Rat):l.foldl (fun e t=>jE op a b t e) 5=5:=by
 induction l with
 |nil=>rfl
 |cons t l ih=>rw[a2y,Ag6];exact ih
theorem Ai2(op:Rat->Rat->Rat)(a b:List PcQ)(l:List Rat)(i:Nat)(t:Rat)(h:l[i]?=some t)(h0:jEs op a b (l.take i)=0)(h5:jE op a b t 0=5):jEs op a b l=5:=by
 have hi:=(a0f.1 h).1
 have he:l=l.take i++t::l.drop (i+1):=by
  have:=a4i i l
  rw[a6i hi]at this
  rw[a0b hi]at h
  injection h with h
  rw[h]at this
  exact this.symm
 rw[he,jEs,a2o,a2y]
 unfold jEs at h0
 rw[h0,h5]
 exact A1o op a b _
theorem Aee(l:List Rat)(t:Rat):(Cq l t).length<=l.length+1:=by
 induction l with
 |nil=>simp[Cq]
 |cons y l ih=>
  unfold Cq
  split
  ·simp;omega
  ·split<;>simp
theorem A9t(l m:List Rat):(l.foldl Cq m).length<=m.length+l.length:=by
 induction l generalizing m with
 |nil=>simp
 |cons y l ih=>
  have h1:=ih (Cq m y)
  have h2:=Aee m y
  rw[a2y,a0j]
  omega
theorem Vn(l:List PcQ)(i:Nat)(x:PcQ)(m:List Rat)(h:l[i]?=some x):((l.take (i+1)).map (·.f)).foldl Cq m=Cq (((l.take i).map (·.f)).foldl Cq m) x.f:=by
 rw[a0u,h,a1f,a2o]
 rfl
theorem Oz(l:List PcQ)(m:List Rat)(hl:okC l)(hm:∀q∈m,Fits q)(i:Nat):∀q∈((l.take i).map (·.f)).foldl Cq m,Fits q:=fun q hq=>by
 rw[Yy]at hq
 rcases hq with hq|hq
 ·exact hm q hq
 ·obtain⟨p,hp,rfl⟩:=a1d.1 hq
  exact(hl p (a3j hp)).f
theorem Jv(l:List PcQ)(m:List Rat)(i:Nat):(((l.take i).map (·.f)).foldl Cq m).length<=m.length+l.length:=by
 have:=A9t ((l.take i).map (·.f)) m
 rw[a0e,a0x]at this
 omega
theorem A8k(a b:List PcQ):(b.map (·.f)).foldl Cq ((a.map (·.f)).foldl Cq [])=An a b:=by
 rw[An,Ku,a1f,a2o]
theorem Ul(p q:Rat)(hp:Fits p)(hq:Fits q):∃n d e:Int,Fz 207 [A0 (frR p),A0 (frR q)] (.tup [A0 [.i n,.i d],.i e])/\(Fits (p+q)->n=(p+q).num/\d=(p+q).den/\e=0)/\(¬Fits (p+q)->¬e=0):=by
 have h:=K3 p q hp hq
 by_cases hf:Fits (p+q)
 ·rw[Bg,if_pos hf]at h
  exact⟨_,_,_,h,fun _=>⟨rfl,rfl,rfl⟩,fun k=>absurd hf k⟩
 ·rw[Bg,if_neg hf]at h
  exact⟨_,_,_,h,fun k=>absurd k hf,fun _=>by decide⟩
theorem Qt{q:Rat}(h:Fits q):Fits (-q):=by
 obtain⟨h1,h2⟩:=h
 refine⟨?_,?_⟩<;>simp<;>omega
theorem Agy(a b:List PcQ)(ha:okC a)(hb:okC b)(ha0:a≠[])(hb0:b≠[])(hsa:Ag a)(hsb:Ag b)(han:a.length<=200)(hbn:b.length<=200):
  Fz 125 [.sl (a.map PcQ.row),.sl (b.map PcQ.row),.b true] (.tup [.sl ((F4 (fun p q:Rat=>p+ -q) a b).map PcQ.row),.i (Cr (fun p q:Rat=>p+ -q) a b)]):=by
 have hla:=lmA a PcQ.row
 have hlb:=lmA b PcQ.row
 have hfit:=Ko a b ha hb
 have hT0:0<(An a b).length:=by
  obtain⟨x,hx⟩:∃x,x∈a:=⟨_,a4o (a1i.2 ha0)⟩
  have:x.f∈An a b:=by rw[An,F5];exact a1d.2 ⟨x,a0p.2 (.inl hx),rfl⟩
  exact a8m this
 unfold F4 Cr
 skip
 refine Fo Tryz.func125 ?_
 repeat' first|refine WX ?_|refine W2 ?_ ?_<;>intro hc
 refine p0p 8 rfl ?_
 refine p0c (fun i=>i<=a.length) (fun i=>a.length-i) (fun i=>[(9,.i i),(8,.sl ((((a.take i).map (·.f)).foldl Cq []).map frR)),(0,.sl (a.map PcQ.row)),(1,.sl (b.map PcQ.row)),(2,.b true)]) (fun i=>[]) 0 (a0k _) CV .nil ?_
 intro i hi
 by_cases hlt:(i:Int)<((a.map PcQ.row).length:Nat)
 ·obtain⟨x,hx⟩:∃x,a[i]?=some x:=⟨a[i]'(by omega),a0b _⟩
  have hb2:(a.map PcQ.row)[((i:Nat):Int).toNat]?=some x.row:=by rw[a0q,a0d,hx];rfl
  have hsn:=Vn a i x [] hx
  have hlen:=Jv a [] i
  rw[a0m]at hlen
  have cp:=Abz (((a.take i).map (·.f)).foldl Cq []) x.f (Oz a [] ha (by simp) i) (ha x (a0a hx)).f (by omega)
  repeat' first|refine WX ?_|refine W2 ?_ ?_<;>intro hc
  exact Next.go (i+1) (by omega) (by omega) (.cons (by rw[show(((i+1:Nat):Int))=(i:Int)+1 by omega];rfl) rfl (.cons (by rw[hsn];rfl) rfl CV)) .nil
 obtain rfl:i=a.length:=by omega
 rw[a1l]
 have hAfit:∀q∈(a.map (·.f)).foldl Cq [],Fits q:=by
  have:=Oz a [] ha (by simp) a.length
  rwa[a1l]at this
 have hAlen:=Jv a [] a.length
 rw[a1l,a0m]at hAlen
 have htwo:=A8k a b
 generalize(a.map (·.f)).foldl Cq []=tA at hAfit hAlen htwo⊢
 repeat' first|refine WX ?_|refine W2 ?_ ?_<;>intro hc
 refine p0c (fun i=>i<=b.length) (fun i=>b.length-i) (fun i=>[(10,.i i),(8,.sl ((((b.take i).map (·.f)).foldl Cq tA).map frR)),(0,.sl (a.map PcQ.row)),(1,.sl (b.map PcQ.row)),(2,.b true)]) (fun i=>[]) 0 (a0k _) CV .nil ?_
 intro i hi
 by_cases hlt2:(i:Int)<((b.map PcQ.row).length:Nat)
 ·obtain⟨x,hx⟩:∃x,b[i]?=some x:=⟨b[i]'(by omega),a0b _⟩
  have hb2:(b.map PcQ.row)[((i:Nat):Int).toNat]?=some x.row:=by rw[a0q,a0d,hx];rfl
  have hsn:=Vn b i x tA hx
  have hlen:=Jv b tA i
  have cp:=Abz (((b.take i).map (·.f)).foldl Cq tA) x.f (Oz b tA hb hAfit i) (hb x (a0a hx)).f (by omega)
  repeat' first|refine WX ?_|refine W2 ?_ ?_<;>intro hc
  exact Next.go (i+1) (by omega) (by omega) (.cons (by rw[show(((i+1:Nat):Int))=(i:Int)+1 by omega];rfl) rfl (.cons (by rw[hsn];rfl) rfl CV)) .nil
 obtain rfl:i=b.length:=by omega
 rw[a1l,htwo]
 generalize An a b=tms at hfit hT0⊢
 have hlm:=lmA tms frR
 by_cases h2:(200:Int)<((tms.map frR).length:Nat)
 ·rw[if_pos (show 200<tms.length by omega),if_pos (show 200<tms.length by omega)]
  repeat' first|refine W ?_|refine Zb7 ?_|refine V ?_|refine W2 ?_ ?_<;>intro hc
  exact D2 rfl rfl rfl
 rw[if_neg (show ¬200<tms.length by omega),if_neg (show ¬200<tms.length by omega)]
 repeat' first|refine WX ?_|refine W2 ?_ ?_<;>intro hc
 refine T.kill 0 ?_
 refine p0c (fun i=>i<=tms.length/\jEs (fun p q:Rat=>p+ -q) a b (tms.take i)=0) (fun i=>tms.length-i) (fun i=>[(12,.i i),(11,rT 0 8 i),(8,.sl (tms.map frR)),(0,.sl (a.map PcQ.row)),(1,.sl (b.map PcQ.row)),(2,.b true)]) (fun i=>[rB (Ae ((tms.take i).map (jP (fun p q:Rat=>p+ -q) a b))) i]) 0 ⟨a0k _,rfl⟩ CV (.dead .nil) ?_
 rintro i ⟨hi,he0⟩
 by_cases hlt3:(i:Int)<((tms.map frR).length:Nat)
 ·obtain⟨t,ht⟩:∃t,tms[i]?=some t:=⟨tms[i]'(by omega),a0b _⟩
  have hft:=hfit t (a0a ht)
  have hb2:(tms.map frR)[((i:Nat):Int).toNat]?=some (frR t):=by rw[a0q,a0d,ht];rfl
  have hts1:tms.take (i+1)=tms.take i++[t]:=by rw[a0u,ht];rfl
  have hE:jEs (fun p q:Rat=>p+ -q) a b (tms.take (i+1))=jE (fun p q:Rat=>p+ -q) a b t 0:=by rw[hts1,jEs,a2o];unfold jEs at he0;rw[he0];rfl
  have hbad:=Ai2 (fun p q:Rat=>p+ -q) a b tms i t ht he0
  have hP:Ae ((tms.take (i+1)).map (jP (fun p q:Rat=>p+ -q) a b))=Ae ((tms.take i).map (jP (fun p q:Rat=>p+ -q) a b))++(jP (fun p q:Rat=>p+ -q) a b t).row.map .lf:=by rw[hts1,a1f,Cg];show _++Ae [jP (fun p q:Rat=>p+ -q) a b t]=_;simp[Ae]
  have hPl:((tms.take i).map (jP (fun p q:Rat=>p+ -q) a b)).length=i:=by rw[a0e,a0x];omega
  have hJ:=jE (fun p q:Rat=>p+ -q) a b t 0
  have hJd:jE (fun p q:Rat=>p+ -q) a b t 0=kE ((fun p q:Rat=>p+ -q) (atP a t).c (atP b t).c) (kE ((fun p q:Rat=>p+ -q) (atP a t).b (atP b t).b) (kE ((fun p q:Rat=>p+ -q) (atP a t).a (atP b t).a) (Eu b t (Eu a t 0)))):=rfl
  have hPd:(jP (fun p q:Rat=>p+ -q) a b t).row.map AV.lf=[.i t.num,.i t.den,.i (kQ ((fun p q:Rat=>p+ -q) (atP a t).a (atP b t).a)).num,.i (kQ ((fun p q:Rat=>p+ -q) (atP a t).a (atP b t).a)).den,.i (kQ ((fun p q:Rat=>p+ -q) (atP a t).b (atP b t).b)).num,.i (kQ ((fun p q:Rat=>p+ -q) (atP a t).b (atP b t).b)).den,.i (kQ ((fun p q:Rat=>p+ -q) (atP a t).c (atP b t).c)).num,.i (kQ ((fun p q:Rat=>p+ -q) (atP a t).c (atP b t).c)).den]:=rfl
  rw[hPd]at hP
  obtain⟨y1,cf1,hy1⟩:=A6a a t ha ha0 hsa (by omega) hft
  obtain⟨y2,cf2,hy2⟩:=A6a b t hb hb0 hsb (by omega) hft
  have ox:=Lq a t ha ha0 hft
  have oy:=Lq b t hb hb0 hft
  rcases Lp a t with e1|e1
  ·rw[hy1 e1,e1]at cf1
   rw[e1]at hJd
   rcases Lp b t with e2|e2
   ·rw[hy2 e2,e2]at cf2
    rw[e2]at hJd
    have hxf:(atP a t).f=t:=by rw[A0r]
    generalize atP a t=x at cf1 ox hJd hP hxf
    generalize atP b t=y at cf2 oy hJd hP
    subst hxf
    have n1:=K4 y.a oy.a
    have n2:=K4 y.b oy.b
    have n3:=K4 y.c oy.c
    obtain⟨nA,dA,eA,cA,gA,fA⟩:=Ul x.a (-y.a) ox.a (Qt oy.a)
    obtain⟨nB,dB,eB,cB,gB,fB⟩:=Ul x.b (-y.b) ox.b (Qt oy.b)
    obtain⟨nC,dC,eC,cC,gC,fC⟩:=Ul x.c (-y.c) ox.c (Qt oy.c)
    by_cases kA:Fits (x.a+(-y.a))
    ·obtain⟨rfl,rfl,rfl⟩:=gA kA
     by_cases kB:Fits (x.b+(-y.b))
     ·obtain⟨rfl,rfl,rfl⟩:=gB kB
      by_cases kC:Fits (x.c+(-y.c))
      ·obtain⟨rfl,rfl,rfl⟩:=gC kC
       have hJ0:jE (fun p q:Rat=>p+ -q) a b x.f 0=0:=hJd.trans (by rw[Cs kA,Cs kB,Cs kC])
       rw[hJ0]at hE
       simp only[]at hP
       rw[Do kA,Do kB,Do kC]at hP
       cases i with
       |zero=>
        repeat' first|refine WY ?_|refine Zb0 ?_|refine Zbw ?_|refine Dv 10 ?_|refine Dw 10 ?_|refine Da ?_|refine V ?_|refine W2 ?_ ?_<;>intro hc
        exact Next.go 1 ⟨by omega,hE⟩ (by omega) CV (by rw[show(1:Nat)=0+1 from rfl,hP];exact .live rfl .nil)
       |succ i=>
        repeat' first|refine WY ?_|refine Zb0 ?_|(apply p0h;(iterate 8 exact rfl);(rw[Az,hPl]);exact A9 rfl;exact rfl;exact Aj _ _;simp only[a0j,a0m];omega;simp only[a0j,a0m];omega)|refine Dv 10 ?_|refine Dw 10 ?_|refine Da ?_|refine V ?_|refine W2 ?_ ?_<;>intro hc
        exact Next.go (i+1+1) ⟨by omega,hE⟩ (by omega) (.cons (by rw[show(((i+1+1:Nat):Int))=((i+1:Nat):Int)+1 by omega];rfl) rfl CV) (by rw[hP];exact .live (by rw[a2k,Bn];rfl) .nil)
      ·have hz:=fC kC
       rw[hbad (hJd.trans (by rw[Cs kA,Cs kB,Dp kC])),if_neg (show ¬(5:Int)=0 by decide)]
       repeat' first|refine WY ?_|refine Dv 10 ?_|refine Dw 10 ?_|refine Da ?_|refine Zb7 ?_|refine V ?_|refine W2 ?_ ?_<;>intro hc
       exact D2 rfl rfl rfl
     ·have hz:=fB kB
      rw[hbad (hJd.trans (by rw[Cs kA,Dp kB,Ar])),if_neg (show ¬(5:Int)=0 by decide)]
      repeat' first|refine WY ?_|refine Dv 10 ?_|refine Dw 10 ?_|refine Da ?_|refine Zb7 ?_|refine V ?_|refine W2 ?_ ?_<;>intro hc
      exact D2 rfl rfl rfl
    ·have hz:=fA kA
     rw[hbad (hJd.trans (by rw[Dp kA,Ar,Ar])),if_neg (show ¬(5:Int)=0 by decide)]
     repeat' first|refine WY ?_|refine Dv 10 ?_|refine Dw 10 ?_|refine Da ?_|refine Zb7 ?_|refine V ?_|refine W2 ?_ ?_<;>intro hc
     exact D2 rfl rfl rfl
   ·rw[e2]at cf2
    rw[hbad (hJd.trans (by rw[e2,Ar,Ar,Ar])),if_neg (show ¬(5:Int)=0 by decide)]
    repeat' first|refine WY ?_|refine Da ?_|refine Zb7 ?_|refine V ?_|refine W2 ?_ ?_<;>intro hc
    exact D2 rfl rfl rfl
  ·rw[e1]at cf1
   rw[hbad (hJd.trans (by rw[e1,Mu,Ar,Ar,Ar])),if_neg (show ¬(5:Int)=0 by decide)]
   repeat' first|refine WY ?_|refine Da ?_|refine Zb7 ?_|refine V ?_|refine W2 ?_ ?_<;>intro hc
   exact D2 rfl rfl rfl
 obtain rfl:i=tms.length:=by omega
 rw[a1l]at he0
 have hown:=K0 (tms.map (jP (fun p q:Rat=>p+ -q) a b))
 rw[a0e]at hown
 rw[Gf hT0,Ge hT0,a1l,he0,if_pos (show(0:Int)=0 from rfl)]
 repeat' first|refine W ?_|(refine T.freeze 11 rfl rfl hown ?_)|refine V ?_|refine W2 ?_ ?_<;>intro hc
 exact D2 rfl rfl rfl
theorem Aim:(fun p q:Rat=>p+ -q)=(fun p q:Rat=>p-q):=by
 funext p q
 exact(a4l p q).symm
theorem Ac0(a b:List PcQ)(ha:okC a)(hb:okC b)(ha0:a≠[])(hb0:b≠[])(hsa:Ag a)(hsb:Ag b)(han:a.length<=200)(hbn:b.length<=200):
  Fz 125 [.sl (a.map PcQ.row),.sl (b.map PcQ.row),.b true] (.tup [.sl ((F4 (· - ·) a b).map PcQ.row),.i (Cr (· - ·) a b)]):=by
 have h:=Agy a b ha hb ha0 hb0 hsa hsb han hbn
 rw[Aim]at h
 exact h
end Go.Proofs.YtcaicpnepfjcmaaGreat
