/- Lemmas of the proof. -/
import Derived.Test.YtcaicpnepfjcmaaGreatMp
set_option linter.all false
set_option maxHeartbeats 64000000
namespace Go.Proofs.YtcaicpnepfjcmaaGreat
open Go Go.RowKit
def a3j:= @List.mem_of_mem_take
def a6a:= @List.length_set
def a6w:= @List.range_succ
def a7q:= @List.mem_flatten
def a7u:= @List.map_eq_nil_iff
theorem Pc(d:Int)(m:MoveR)(l:List PieceR)(x:PieceR)(hl:l.length<=4)(hx:l[l.length-1]?=some x)(hc:Fz 170 [.i d,A0 m.row] (.tup [.sl (l.map PieceR.row),.i 0])):Fz 191 [.i d,A0 m.row] (.tup [A0 x.at,.i 0]):=by
 have h0:l≠[]:=by rintro rfl;simp at hx
 have hpos:1<=l.length:=by
  cases l with
  |nil=>exact absurd rfl h0
  |cons _ _=>simp
 have hk:=A7r d m l hl h0 hc
 have hle:=lmA l PieceR.at
 have hb:(l.map PieceR.at)[(((l.map PieceR.at).length:Int)-1).toNat]?=some x.at:=by
  rw[hle,show((l.length:Int)-1).toNat=l.length-1 by omega,a0d,hx];rfl
 refine Fo Tryz.func191 ?_
 repeat' first|refine WX ?_|refine W2 ?_ ?_<;>intro hc
 all_goals exact D3 rfl rfl rfl rfl rfl rfl rfl
def H4(f a b c:Rat):PieceR:=⟨f.num,f.den,a.num,a.den,b.num,b.den,c.num,c.den⟩
def I7(d:Int)(m:MoveR):Rat:=if d=0 then 0 else G6 d m
theorem Aar(d:Int)(m:MoveR)(hm:Cm m)(hd:0<=d/\d<=1048576):Fz 191 [.i d,A0 m.row] (frE (I7 d m) 0):=by
 unfold I7
 by_cases h:d=0
 ·subst h
  rw[if_pos rfl]
  exact Pc 0 m [H4 0 0 0 0] (H4 0 0 0 0) (by decide) rfl (A49 m hm)
 ·rw[if_neg h]
  have hc:=Wf d m hm (by omega)
  by_cases hr:(Jj d m).num=0
  ·rw[show M8 d m=Pr d m from if_pos hr]at hc
   exact Pc d m [H4 0 0 0 (A4 m.rise 2),H4 (F8 d m) (Pj d m) ((Ai d m:Int):Rat) (A4 (-m.fall) 2),H4 (G6 d m) (d:Rat) 0 0] (H4 (G6 d m) (d:Rat) 0 0) (by simp) rfl hc
  ·rw[show M8 d m=Ps d m from if_neg hr]at hc
   exact Pc d m [H4 0 0 0 (A4 m.rise 2),H4 (Gd d m) (Km d m) ((Ai d m:Int):Rat) 0,H4 (F8 d m) (Pj d m) ((Ai d m:Int):Rat) (A4 (-m.fall) 2),H4 (G6 d m) (d:Rat) 0 0] (H4 (G6 d m) (d:Rat) 0 0) (by simp) rfl hc
theorem Il(n d:Int)(hd:d≠0)(n1: -9223372036854775808<=n)(n2:n<=9223372036854775807)(d1: -9223372036854775808<=d)(d2:d<=9223372036854775807)(hf:Fits (A4 n d)):Fz 262 [.i n,.i d] (A0 (frR (A4 n d))):=by
 refine Fo Tryz.func262 ?_
 repeat' first|refine W ?_|refine Zc (Um n d hd n1 n2 d1 d2 hf) ?_|refine V ?_|refine W2 ?_ ?_<;>intro hc
 all_goals exact Pp (frR (A4 n d)) Tryz.results262 (by first|exact .inl rfl|exact .inr rfl) rfl rfl rfl rfl
theorem A2n(d:Int)(m:MoveR)(hm:Cm m)(hd:0<=d/\d<=1048576):Fz 220 [.i d,A0 m.row] (A0 (frR (I7 d m))):=by
 unfold I7
 by_cases h:d=0
 ·rw[if_pos h]
  refine Fo Tryz.func220 ?_
  repeat' first|refine W ?_|refine Zc (Co 0) ?_|refine V ?_|refine W2 ?_ ?_<;>intro hc
  all_goals exact Pp (frR 0) Tryz.results220 (by first|exact .inl rfl|exact .inr rfl) rfl rfl rfl rfl
 ·rw[if_neg h]
  have K:=Ib hm (d:=d) (by omega)
  have hw:=K.w
  have hfin:=K.fin
  rw[K.time]at hfin⊢
  have ct:=A62 d m hm (by omega)
  obtain⟨_,_,h3,h4,h5⟩:=hm
  obtain⟨w,hwe⟩:∃w:Int,w=(Ai d m:Int):=⟨_,rfl⟩
  rw[<-hwe]at hfin ct⊢
  have hw':1<=w/\w<=8192:=by omega
  have ww:=E3 (a:=w) (b:=w) (A:=8192) (B:=8192) (by omega) (by omega)
  have rf:=E3 (a:=2*m.rise) (b:=m.fall) (A:=32768) (B:=16384) (by omega) (by omega)
  have rf1:=L6 (a:=2*m.rise) (b:=m.fall) (by omega) (by omega)
  have rfd:=E3 (a:=2*m.rise*m.fall) (b:=d) (A:=536870912) (B:=1048576) (by omega) (by omega)
  have rfw:=E3 (a:=2*m.rise*m.fall) (b:=w) (A:=536870912) (B:=8192) (by omega) (by omega)
  have rfw1:=L6 (a:=2*m.rise*m.fall) (b:=w) (by omega) (by omega)
  have wrf:=E3 (a:=w*w) (b:=m.rise+m.fall) (A:=67108864) (B:=32768) (by omega) (by omega)
  have cf:=Il _ _ (by omega) (by omega) (by omega) (by omega) (by omega) hfin
  refine Fo Tryz.func220 ?_
  repeat' first|refine WX ?_|refine W2 ?_ ?_<;>intro hc
  all_goals exact Pp (frR (A4 (2*m.rise*m.fall*d+w*w*(m.rise+m.fall)) (2*m.rise*m.fall*w))) Tryz.results220 (by first|exact .inl rfl|exact .inr rfl) rfl rfl rfl rfl
structure GivenOk(h:HouseR)(l:List Int)(q:CueR):Prop where
 house:Bv h
 right:Eo h q
 len:l.length=h.sets.length
 trims:Ey h l
theorem Vo{h:HouseR}{l:List Int}{q:CueR}(g:F3 h l q=0):GivenOk h l q:=by
 by_cases h1:Bv h/\Eo h q
 ·by_cases h2:l.length=h.sets.length
  ·by_cases h3:Ey h l
   ·exact⟨h1.1,h1.2,h2,h3⟩
   ·rw[A1h h1 h2 h3]at g;cases g
  ·rw[A1i h1 h2]at g;cases g
 ·rw[Ub h1]at g;cases g
theorem GivenOk.move{h:HouseR}{l:List Int}{q:CueR}(g:GivenOk h l q){m:MoveR}(hm:m∈q.moves):Cm m/\0<=Aa h m.set/\(Aa h m.set).toNat<l.length/\∃n,l[(Aa h m.set).toNat]?=some n/\(0<=n/\n<=1048576)/\0<=m.to/\m.to<=1048576:=by
 obtain⟨_,_,_,_,_,hmv,_⟩:=g.right
 obtain⟨h1,s,h2,h3,h4,h5⟩:=hmv m hm
 obtain⟨_,_,_,_,_,hs,_⟩:=g.house
 obtain⟨⟨_,_,s1,s2,s3,_⟩,_⟩:=hs s (a0a h3)
 have hlt:(Aa h m.set).toNat<l.length:=by
  rw[g.len];exact(a0f.1 h3).1
 have hn:=a0b hlt
 have ht:=g.trims _ _ s hn h3
 exact⟨h1,h2,hlt,_,hn,⟨by omega,by omega⟩,by omega,by omega⟩
def Lb(h:HouseR)(l:List Int)(m:MoveR):Int:=max (m.to-l.getD (Aa h m.set).toNat 0) (-(m.to-l.getD (Aa h m.set).toNat 0))
theorem Jq{h:HouseR}{l:List Int}{m:MoveR}{n:Int}(hn:l[(Aa h m.set).toNat]?=some n):Lb h l m=max (m.to-n) (-(m.to-n)):=by
 unfold Lb
 rw[a0i,hn];rfl
theorem Kf{h:HouseR}{l:List Int}{q:CueR}(g:GivenOk h l q){m:MoveR}(hm:m∈q.moves):0<=Lb h l m/\Lb h l m<=1048576:=by
 obtain⟨_,_,_,n,hn,_,_,_⟩:=g.move hm
 rw[Jq hn]
 omega
def Hr(h:HouseR)(l:List Int)(m:MoveR):Rat:=I7 (Lb h l m) m
theorem A9s{d:Int}{m:MoveR}(hm:Cm m)(hd:0<=d/\d<=1048576):Fits (I7 d m):=by
 unfold I7
 by_cases h:d=0
 ·rw[if_pos h];exact Bx (n:=0) (by omega) (by omega)
 ·rw[if_neg h];exact(Ib hm (by omega)).fin
theorem Qs{h:HouseR}{l:List Int}{q:CueR}(g:GivenOk h l q){m:MoveR}(hm:m∈q.moves):Fits (Hr h l m):=A9s (g.move hm).1 (Kf g hm)
def Es(h:HouseR)(l:List Int)(most:Rat)(m:MoveR):Rat:=if 0<Ay (Hr h l m) most then Hr h l m else most
def C9(h:HouseR)(l:List Int)(ms:List MoveR):Rat:=ms.foldl (Es h l) 0
theorem Yt(h:HouseR)(l:List Int)(ms:List MoveR)(m:MoveR):C9 h l (ms++[m])=Es h l (C9 h l ms) m:=by simp[C9]
theorem Xn(h:HouseR)(l:List Int):∀(ms:List MoveR)(a:Rat),ms.foldl (Es h l) a=a\/∃m∈ms,ms.foldl (Es h l) a=Hr h l m
 |[],a=>.inl rfl
 |m::ms,a=>by
  rw[a2y]
  rcases Xn h l ms (Es h l a m)with e|⟨x,hx,e⟩
  ·rw[e]
   unfold Es
   split
   ·exact .inr ⟨m,by simp,rfl⟩
   ·exact .inl rfl
  ·exact .inr ⟨x,by simp[hx],e⟩
theorem Ox{h:HouseR}{l:List Int}{q:CueR}(g:GivenOk h l q){ms:List MoveR}(hms:∀m∈ms,m∈q.moves):Fits (C9 h l ms):=by
 unfold C9
 rcases Xn h l ms 0 with e|⟨m,hm,e⟩
 ·rw[e];exact Bx (n:=0) (by omega) (by omega)
 ·rw[e];exact Qs g (hms m hm)
theorem A07(h:HouseR)(l:List Int)(q:CueR)(hf:h.fits)(hq:q.moves.length<=9223372036854775807)(hl:l.length<=9223372036854775807)(g0:F3 h l q=0):Fz 109 [A0 h.row,.sl (l.map A1),A0 q.row] (frE (C9 h l q.moves) 0):=by
 have g:=Vo g0
 have cg:=A9j h l q hf hq hl
 rw[g0]at cg
 have hf1:=hf.1
 have hle:=lmA q.moves MoveR.row
 refine Fo Tryz.func109 ?_
 repeat' first|refine WX ?_|refine W2 ?_ ?_<;>intro hc
 refine p0c (fun k=>k<=q.moves.length) (fun k=>q.moves.length-k) (fun k=>[(29,.i k),(28,.i (q.moves.map MoveR.row).length),(27,.sl (q.moves.map MoveR.row)),(1,.sl (l.map A1)),(3,.ptr 0 0),(5,.ptr 1 0),(6,.ptr 2 0),(9,.ptr 3 0)]) (fun k=>[.live (h.row.map .lf),.live (q.row.map .lf),.live [.i 0,.i 0],.live ((frR (C9 h l (q.moves.take k))).map .lf)]) 0 (a0k _) CV CH ?_
 intro k hk
 by_cases hlt:k<q.moves.length
 ·have h1:(k:Int)<((q.moves.map MoveR.row).length:Nat):=by omega
  obtain⟨x,hx⟩:=A2 hlt
  have hb:=A3 (R:=MoveR.row) hx
  have hsn:=Ad hx
  have hmem:x∈q.moves:=a0a hx
  have hst:C9 h l (q.moves.take (k+1))=Es h l (C9 h l (q.moves.take k)) x:=by rw[hsn,Yt]
  obtain⟨m1,m2,m3,n,hn,m4,m5,m6⟩:=g.move hmem
  have hb2:(l.map A1)[(Aa h x.set).toNat]?=some (A1 n):=Ft hn
  have hd:=Kf g hmem
  have ct:=Aar (max (x.to-n) (-(x.to-n))) x m1 (by rw[<-Jq hn];exact hd)
  rw[show I7 (max (x.to-n) (-(x.to-n))) x=Hr h l x by unfold Hr;rw[Jq hn]]at ct
  have cc:=Rg (Hr h l x) (C9 h l (q.moves.take k)) (Qs g hmem) (Ox g fun m hm=>a3j hm)
  repeat' first|refine WY ?_|refine Da ?_|refine Zc (S8 h x.set hf1) ?_|refine Zd2 ?_|(apply S.max2;(iterate 3 exact rfl))|refine V ?_|refine W2 ?_ ?_<;>intro hc
  all_goals first
   |exact Next.go (k+1) (by omega) (by omega) CV (by
    show CovH _ _ [_,_,_,.live ((frR (C9 h l (q.moves.take (k+1)))).map .lf)]
    rw[hst,Es,if_pos (by assumption)]
    exact .live rfl CH)
   |exact Next.go (k+1) (by omega) (by omega) CV (by
    show CovH _ _ [_,_,_,.live ((frR (C9 h l (q.moves.take (k+1)))).map .lf)]
    rw[hst,Es,if_neg (by assumption)]
    exact .live rfl CH)
 ·have h1:¬(k:Int)<((q.moves.map MoveR.row).length:Nat):=by omega
  have hkt:q.moves.take k=q.moves:=a0g (by omega)
  rw[show C9 h l q.moves=C9 h l (q.moves.take k) by rw[hkt]]
  repeat' first|refine WX ?_|refine W2 ?_ ?_<;>intro hc
  exact D3 rfl rfl rfl rfl rfl rfl rfl
/-! ### The reference -/
theorem Rf(h:HouseR)(l:List Int)(m:MoveR)(n:Int)(hf1:h.sets.length<=9223372036854775807)(h0:0<=Aa h m.set)(hn:l[(Aa h m.set).toNat]?=some n)(hn':0<=n/\n<=1048576)(ht:0<=m.to/\m.to<=1048576):Fz 200 [A0 h.row,.sl (l.map A1),A0 m.row] (.i (Lb h l m)):=by
 rw[Jq hn]
 have hb2:(l.map A1)[(Aa h m.set).toNat]?=some (A1 n):=Ft hn
 refine Fo Tryz.func200 ?_
 repeat' first|refine WY ?_|refine Da ?_|refine Zc (Gn h m.set hf1) ?_|refine V ?_|refine W2 ?_ ?_<;>intro hc
 all_goals exact Dd rfl rfl (by congr 1;omega)
theorem A7x(h:HouseR)(l:List Int)(q:CueR)(hf:h.fits)(hq:q.moves.length<=9223372036854775807)(g0:F3 h l q=0):Fz 158 [A0 h.row,.sl (l.map A1),A0 q.row] (A0 (frR (C9 h l q.moves))):=by
 have g:=Vo g0
 have hf1:=hf.1
 have hle:=lmA q.moves MoveR.row
 refine Fo Tryz.func158 ?_
 repeat' first|refine W ?_|refine Zc (Co 0) ?_|refine V ?_|refine W2 ?_ ?_<;>intro hc
 refine p0c (fun k=>k<=q.moves.length) (fun k=>q.moves.length-k) (fun k=>[(8,.i k),(1,.sl (l.map A1)),(3,.ptr 0 0),(5,.ptr 1 0),(6,.ptr 2 0),(7,.ptr 3 0)]) (fun k=>[.live (h.row.map .lf),.live (q.row.map .lf),.live [.i 0,.i 0],.live ((frR (C9 h l (q.moves.take k))).map .lf)]) 0 (a0k _) CV CH ?_
 intro k hk
 by_cases hlt:k<q.moves.length
 ·have h1:(k:Int)<((q.moves.map MoveR.row).length:Nat):=by omega
  obtain⟨x,hx⟩:=A2 hlt
  have hb:=A3 (R:=MoveR.row) hx
  have hsn:=Ad hx
  have hmem:x∈q.moves:=a0a hx
  have hst:C9 h l (q.moves.take (k+1))=Es h l (C9 h l (q.moves.take k)) x:=by rw[hsn,Yt]
  obtain⟨m1,m2,m3,n,hn,m4,m5,m6⟩:=g.move hmem
  have cd:=Rf h l x n hf1 m2 hn m4 ⟨m5,m6⟩
  have ct:=A2n (Lb h l x) x m1 (Kf g hmem)
  have cc:=Fs (Hr h l x) (C9 h l (q.moves.take k)) (Qs g hmem) (Ox g fun m hm=>a3j hm)
  repeat' first|refine WY ?_|refine Dw 14 ?_|refine Da ?_|refine V ?_|refine W2 ?_ ?_<;>intro hc
  all_goals first
   |exact Next.go (k+1) (by omega) (by omega) CV (by
    show CovH _ _ [_,_,_,.live ((frR (C9 h l (q.moves.take (k+1)))).map .lf)]
    rw[hst,Es,if_pos (by assumption)]
    exact .live rfl CH)
   |exact Next.go (k+1) (by omega) (by omega) CV (by
    show CovH _ _ [_,_,_,.live ((frR (C9 h l (q.moves.take (k+1)))).map .lf)]
    rw[hst,Es,if_neg (by assumption)]
    exact .live rfl CH)
 ·have h1:¬(k:Int)<((q.moves.map MoveR.row).length:Nat):=by omega
  have hkt:q.moves.take k=q.moves:=a0g (by omega)
  rw[show C9 h l q.moves=C9 h l (q.moves.take k) by rw[hkt]]
  repeat' first|refine WX ?_|refine W2 ?_ ?_<;>intro hc
  exact Pp (frR (C9 h l (q.moves.take k))) Tryz.results158 (by first|exact .inl rfl|exact .inr rfl) rfl rfl rfl rfl
abbrev A7(l:List Int):List AV:=(l.map A1).flatten.map .lf
theorem Cd(l:List Int):∀r∈l.map A1,r.length=1:=by
 intro r hr
 obtain⟨n,_,rfl⟩:=a1d.1 hr
 rfl
theorem A1m(l:List Int):(l.map A1).flatten.all Lf.one=true:=by
 rw[a0l]
 intro x hx
 obtain⟨r,hr,hxr⟩:=a7q.1 hx
 obtain⟨n,_,rfl⟩:=a1d.1 hr
 simp only[A1,a1q,a2t,or_false]at hxr
 subst hxr
 rfl
theorem C8(l:List Int):(A7 l).length=l.length:=by
 rw[a0e,Bc _ (Cd l),a0e,a4g]
theorem Vc:∀(l:List Int)(i:Nat)(n:Int),i<l.length->Bk i [.i n] (A7 l)=A7 (l.set i n)
 |[],i,n,h=>by simp at h
 |x::l,0,n,_=>by simp[A7,A1,Bk,G9]
 |x::l,i+1,n,h=>by
  have ih:=Vc l i n (by simpa using h)
  simp only[A7,a2g,A1,a3v,a1f,a6o,a3g,a4h,a5e]at ih⊢
  rw[Bk]
  exact congrArg _ ih
theorem Kc{l:List Int}{i:Nat}{n:Int}(h:i<l.length):A7 (l.set i n)=Bk (0+i*1) [.i n] (A7 l):=by
 rw[<-Vc l i n h,a4g,a1n]
theorem p4h{P:Program}{st:St}{t b k n:Nat}(h:st.tm.get t=some (.own b 0 (0+k) n)):Res P st (.tmp t) (.own b 0 k n):=by
 rw[a1n]at h
 exact .tmp h
theorem A75(l:List Int)(hl:l.length<=1000):FnOwn Tryz.prog 256 [.sl (l.map A1)] (l.map A1) 1:=by
 have hle:=lmA l A1
 refine FnOwn.of Tryz.func256 Tryz.ntmps256 rfl rfl rfl ?_
 simp only[Ak]
 repeat' first|refine W ?_|(apply p4p;exact rfl;exact rfl;intro hnil;rotate_left;rotate_right)|refine Zbt ?_|refine Zd7 (Cd l) (A1m l) ?_|refine V ?_|refine W2 ?_ ?_<;>intro hc
 all_goals(apply T.ret;change A6u _ _ _ _ _ _)
 ·exact⟨.inr rfl,.inl ⟨_,.cons (.tmp rfl) .nil,rfl,hnil⟩⟩
 ·exact⟨.inr rfl,.inr (.inr ⟨0,.cons (p4h rfl) .nil,rfl⟩)⟩
def B9(h:HouseR)(l:List Int)(ms:List MoveR):List Int:=ms.foldl (fun l m=>l.set (Aa h m.set).toNat m.to) l
theorem T5(h:HouseR)(l:List Int)(ms:List MoveR)(m:MoveR):B9 h l (ms++[m])=(B9 h l ms).set (Aa h m.set).toNat m.to:=by simp[B9]
theorem J5(h:HouseR):∀(ms:List MoveR)(l:List Int),(B9 h l ms).length=l.length
 |[],l=>rfl
 |m::ms,l=>by
  have:=J5 h ms (l.set (Aa h m.set).toNat m.to)
  rw[a6a]at this
  exact this
theorem Ln(n:Nat)(l:List Int):(A7 l).all (AV.under n)=true:=Ac n _
theorem A2b(h:HouseR)(l:List Int)(ms:List MoveR):OwnRows (A7 (B9 h l ms)) 0 (l.map A1).length 1 ((B9 h l ms).map A1):=by
 have:=OwnRows.of ((B9 h l ms).map A1).flatten (Cd (B9 h l ms)) rfl
 rw[a0e,J5]at this
 rw[a0e]
 exact this
theorem A9k(h:HouseR)(l:List Int)(q:CueR)(hf:h.fits)(hq:q.moves.length<=9223372036854775807)(g:GivenOk h l q):Fz 188 [A0 h.row,.sl (l.map A1),A0 q.row] (.sl ((B9 h l q.moves).map A1)):=by
 have hf1:=hf.1
 obtain⟨_,_,_,hs60,_⟩:=g.house
 have hl60:l.length<=60:=by rw[g.len];exact hs60
 have hle:=lmA q.moves MoveR.row
 have hle2:=lmA l A1
 refine Fo Tryz.func188 ?_
 repeat' first|refine W ?_|(apply p3b 2;exact A75 l (by omega);(iterate 6 exact rfl);exact Cd l;intro hnil;rotate_left;rotate_right)|refine V ?_|refine W2 ?_ ?_<;>intro hc
 ·have hl0:l=[]:=a7u.1 hnil
  have hm0:q.moves=[]:=by
   cases hmv:q.moves with
   |nil=>rfl
   |cons m ms=>
    obtain⟨_,_,m3,_⟩:=g.move (m:=m) (by rw[hmv];simp)
    rw[hl0]at m3
    simp at m3
  have h1:¬((0:Nat):Int)<((q.moves.map MoveR.row).length:Nat):=by rw[hle,hm0];simp
  refine p0c (fun _:Nat=>True) (fun _=>0) (fun k=>[(15,.i ((0:Nat):Int)),(14,.i (q.moves.map MoveR.row).length),(7,.sl [])]) (fun _=>[]) 0 trivial CV .nil ?_
  intro k _
  repeat' first|refine WX ?_|refine W2 ?_ ?_<;>intro hc
  have hres:(B9 h l q.moves).map A1=[]:=by rw[hl0,hm0];rfl
  rw[hres]
  exact E5 (by first|exact .inl rfl|exact .inr rfl) Tryz.results188 rfl (.one (.one (.lf _)))
 ·refine p0c (fun k=>k<=q.moves.length) (fun k=>q.moves.length-k) (fun k=>[(15,.i k),(14,.i (q.moves.map MoveR.row).length),(13,.sl (q.moves.map MoveR.row)),(7,.own 2 0 (l.map A1).length 1),(3,.ptr 0 0)]) (fun k=>[.live (h.row.map .lf),.live (q.row.map .lf),.live (A7 (B9 h l (q.moves.take k)))]) 0 (a0k _) CV (.live rfl (.live rfl (.live (Ln _ _) .nil))) ?_
  intro k hk
  by_cases hlt:k<q.moves.length
  ·have h1:(k:Int)<((q.moves.map MoveR.row).length:Nat):=by omega
   obtain⟨x,hx⟩:=A2 hlt
   have hb:=A3 (R:=MoveR.row) hx
   have hsn:=Ad hx
   have hmem:x∈q.moves:=a0a hx
   have hst:B9 h l (q.moves.take (k+1))=(B9 h l (q.moves.take k)).set (Aa h x.set).toNat x.to:=by rw[hsn,T5]
   have hal:=J5 h (q.moves.take k) l
   have hcl:=C8 (B9 h l (q.moves.take k))
   obtain⟨m1,m2,m3,n,hn,m4,m5,m6⟩:=g.move hmem
   repeat' first|refine WY ?_|refine Dv 8 ?_|refine Dw 8 ?_|refine Zc (S8 h x.set hf1) ?_|(apply S.indexO;(iterate 4 exact rfl);omega;exact rfl)|(apply p2c;(iterate 6 exact rfl);omega)|refine V ?_|refine W2 ?_ ?_<;>intro hc
   exact Next.go (k+1) (by omega) (by omega) CV (by
    show CovH _ _ [_,_,.live (A7 (B9 h l (q.moves.take (k+1))))]
    have hlt2:(Aa h x.set).toNat<(B9 h l (q.moves.take k)).length:=by omega
    have hu:=Ln 3 ((B9 h l (q.moves.take k)).set (Aa h x.set).toNat x.to)
    rw[Kc hlt2]at hu
    rw[hst,Kc hlt2]
    exact .live rfl (.live rfl (.live hu .nil)))
  ·have h1:¬(k:Int)<((q.moves.map MoveR.row).length:Nat):=by omega
   have hkt:q.moves.take k=q.moves:=a0g (by omega)
   rw[show(B9 h l q.moves).map A1=(B9 h l (q.moves.take k)).map A1 by rw[hkt]]
   repeat' first|refine WX ?_|refine W2 ?_ ?_<;>intro hc
   refine E5 (by first|exact .inl rfl|exact .inr rfl) Tryz.results188 rfl (.one (.one ?_))
   exact .own rfl (A2b h l (q.moves.take k))
/-! ### The reference -/
theorem Aba(h:HouseR)(l:List Int)(q:CueR)(hf:h.fits)(hq:q.moves.length<=9223372036854775807)(g:GivenOk h l q):Fz 219 [A0 h.row,.sl (l.map A1),A0 q.row] (.sl ((B9 h l q.moves).map A1)):=by
 have hf1:=hf.1
 obtain⟨_,_,_,hs60,_⟩:=g.house
 have hl60:l.length<=60:=by rw[g.len];exact hs60
 have hle:=lmA q.moves MoveR.row
 have hle2:=lmA l A1
 refine Fo Tryz.func219 ?_
 repeat' first|refine W ?_|refine Zbt ?_|refine Zd7 (Cd l) (A1m l) ?_|refine V ?_|refine W2 ?_ ?_<;>intro hc
 refine p0c (fun k=>k<=q.moves.length) (fun k=>q.moves.length-k) (fun k=>[(8,.i k),(7,.own 2 0 (0+(l.map A1).length) 1),(3,.ptr 0 0),(5,.ptr 1 0)]) (fun k=>[.live (h.row.map .lf),.live (q.row.map .lf),.live (A7 (B9 h l (q.moves.take k)))]) 0 (a0k _) CV (.live rfl (.live rfl (.live (Ln _ _) .nil))) ?_
 intro k hk
 by_cases hlt:k<q.moves.length
 ·have h1:(k:Int)<((q.moves.map MoveR.row).length:Nat):=by omega
  obtain⟨x,hx⟩:=A2 hlt
  have hb:=A3 (R:=MoveR.row) hx
  have hsn:=Ad hx
  have hmem:x∈q.moves:=a0a hx
  have hst:B9 h l (q.moves.take (k+1))=(B9 h l (q.moves.take k)).set (Aa h x.set).toNat x.to:=by rw[hsn,T5]
  have hal:=J5 h (q.moves.take k) l
  have hcl:=C8 (B9 h l (q.moves.take k))
  obtain⟨m1,m2,m3,n,hn,m4,m5,m6⟩:=g.move hmem
  repeat' first|refine WY ?_|refine Dv 16 ?_|refine Dw 16 ?_|refine Zc (Gn h x.set hf1) ?_|(apply S.indexO;(iterate 4 exact rfl);omega;exact rfl)|(apply p2c;(iterate 6 exact rfl);omega)|refine V ?_|refine W2 ?_ ?_<;>intro hc
  exact Next.go (k+1) (by omega) (by omega) CV (by
   show CovH _ _ [_,_,.live (A7 (B9 h l (q.moves.take (k+1))))]
   have hlt2:(Aa h x.set).toNat<(B9 h l (q.moves.take k)).length:=by omega
   have hu:=Ln 3 ((B9 h l (q.moves.take k)).set (Aa h x.set).toNat x.to)
   rw[Kc hlt2]at hu
   rw[hst,Kc hlt2]
   exact .live rfl (.live rfl (.live hu .nil)))
 ·have h1:¬(k:Int)<((q.moves.map MoveR.row).length:Nat):=by omega
  have hkt:q.moves.take k=q.moves:=a0g (by omega)
  rw[show(B9 h l q.moves).map A1=(B9 h l (q.moves.take k)).map A1 by rw[hkt]]
  repeat' first|refine WX ?_|refine W2 ?_ ?_<;>intro hc
  refine E5 (by first|exact .inl rfl|exact .inr rfl) Tryz.results219 rfl (.one (.one ?_))
  rw[a1n]
  exact .own rfl (A2b h l (q.moves.take k))
def Fh(h:HouseR):List Int:=h.sets.map SetR.high
def B5(h:HouseR)(c:SheetR)(k:Nat):List Int:=(c.cues.take k).foldl (fun l q=>B9 h l q.moves) (Fh h)
theorem R4{h:HouseR}{c:SheetR}{k:Nat}{q:CueR}(hq:c.cues[k]?=some q):B5 h c (k+1)=B9 h (B5 h c k) q.moves:=by
 unfold B5
 rw[a0u,hq]
 simp
def Cz(h:HouseR)(c:SheetR)(n:Nat):List (List Int):=(List.range n).map (B5 h c)
def Mr(l:List Int):List Lf:=[.sl (l.map A1)]
theorem A4n{h:HouseR}{l:List Int}{i:Nat}{n:Int}(ht:Ey h l)(hn:∀s,h.sets[i]?=some s->s.low<=n/\n<=s.high):Ey h (l.set i n):=fun j x s hj hs=>by
 rw[a9s]at hj
 by_cases e:i=j
 ·rw[if_pos e]at hj
  subst e
  split at hj
  ·injection hj with hj
   subst hj
   exact hn s hs
  ·cases hj
 ·rw[if_neg e]at hj
  exact ht j x s hj hs
theorem Qe{h:HouseR}{q:CueR}(hr:Eo h q):∀(ms:List MoveR)(l:List Int),(∀m∈ms,m∈q.moves)->Ey h l->Ey h (B9 h l ms)
 |[],l,_,ht=>ht
 |m::ms,l,hm,ht=>by
  have ih:=Qe hr ms (l.set (Aa h m.set).toNat m.to) (fun x hx=>hm x (by simp[hx])) (A4n ht fun s hs=>by
   obtain⟨_,t,_,h3,h4,h5⟩:=hr.2.2.2.2.2.1 m (hm m (by simp))
   rw[hs]at h3
   injection h3 with h3
   subst h3
   exact⟨h4,h5⟩)
  exact ih
theorem validP.cue{h:HouseR}{c:SheetR}(v:validP h c){q:CueR}{k:Nat}(hq:c.cues[k]?=some q):Eo h q:=(v.2.2.1 k q hq).2.1
theorem Adg{h:HouseR}(hh:Bv h):Ey h (Fh h):=fun i n s h1 h2=>by
 unfold Fh at h1
 rw[a0d,h2]at h1
 simp only[a1g,a0h]at h1
 subst h1
 obtain⟨_,_,_,_,_,hs,_⟩:=hh
 obtain⟨⟨_,_,_,s2,_⟩,_⟩:=hs s (a0a h2)
 exact⟨s2,a4w _⟩
theorem A5q{h:HouseR}{c:SheetR}(v:validP h c):∀k,k<=c.cues.length->(B5 h c k).length=h.sets.length/\Ey h (B5 h c k)
 |0,_=>⟨by simp[B5,Fh],by show Ey h (Fh h);exact Adg v.1⟩
 |k+1,hk=>by
  obtain⟨i1,i2⟩:=A5q v k (by omega)
  obtain⟨q,hq⟩:=A2 (l:=c.cues) (k:=k) (by omega)
  rw[R4 hq]
  exact⟨by rw[J5];exact i1,Qe (v.cue hq) q.moves _ (fun m hm=>hm) i2⟩
theorem F6{h:HouseR}{c:SheetR}(v:validP h c){k:Nat}{q:CueR}(hq:c.cues[k]?=some q):GivenOk h (B5 h c k) q:=by
 have hk:k<c.cues.length:=(a0f.1 hq).1
 obtain⟨i1,i2⟩:=A5q v k (by omega)
 exact⟨v.1,v.cue hq,i1,i2⟩
theorem p5m{P:Program}{N:Nat}{c:Code}{Q:Exit->St->Prop}{tm:Tm}{H:AH}(q:Nat)(ht:tm.get q=some (.val (.slice none 0 0)))(h:T P N c ⟨(q,.sl [])::tm,H⟩ Q):T P N c ⟨tm,H⟩ Q:=
 ⟨fun E a w ρ hE hR=>h.out E a w ρ hE ⟨hR.size,hR.defers,fun t x hx=>by
  rw[p0w]at hx
  obtain⟨h1,h2⟩:=hR.tm q _ ht
  by_cases e:q=t
  ·rw[if_pos e]at hx
   injection hx with hx
   subst hx e
   refine⟨h1,?_⟩
   have:=h2.val_eq
   rw[this]
   exact .lf _ _ .slnil
  ·rw[if_neg e]at hx
   exact hR.tm t x hx,hR.H,hR.fr,hR.mine,hR.lim⟩⟩
def Afp:Nat->AV
 |0=>.val (.slice none 0 0)
 |k+1=>.own 2 0 (k+1) 1
def A0j(l:List SetR):Nat->HB
 |0=>.dead
 |k+1=>.live (A7 ((l.take (k+1)).map SetR.high))
theorem Kd{l:List SetR}{k:Nat}{x:SetR}(h:l.take (k+1)=l.take k++[x]):A7 ((l.take (k+1)).map SetR.high)=A7 ((l.take k).map SetR.high)++([A1 x.high].flatten).map AV.lf:=by
 rw[h];simp[A7]
theorem Z3{h:HouseR}{k:Nat}(hk:k=h.sets.length):OwnRows (A7 ((h.sets.take k).map SetR.high)) 0 k 1 ((Fh h).map A1):=by
 have ht:h.sets.take k=h.sets:=a0g (by omega)
 rw[ht]
 have:=OwnRows.of ((Fh h).map A1).flatten (Cd (Fh h)) rfl
 rw[a0e,Fh,a0e,<-hk]at this
 exact this
theorem A86{P:Program}{N:Nat}{c:Code}{Q:Exit->St->Prop}{tm:Tm}{H:AH}{h:HouseR}{k:Nat}(hk:k=h.sets.length)(ht:tm.get 6=some (Afp k))(hb:H.at 2=A0j h.sets k)(hT:T P N c ⟨(6,.sl ((Fh h).map A1))::tm,H.put 2 .dead⟩ Q):T P N c ⟨tm,H⟩ Q:=by
 cases k with
 |zero=>
  have h0:(Fh h).map A1=[]:=by rw[Fh,a0z hk.symm];rfl
  rw[h0]at hT
  exact p5m 6 ht (T.kill 2 hT (by rw[hb];rfl))
 |succ k=>exact T.freeze 6 ht hb (Z3 hk) hT
theorem Uy(l:List (List Int)):∀r∈l.map Mr,r.length=1:=by
 intro r hr
 obtain⟨n,_,rfl⟩:=a1d.1 hr
 rfl
abbrev Fi(h:HouseR)(c:SheetR)(n:Nat):List AV:=((Cz h c n).map Mr).flatten.map .lf
theorem Vd(h:HouseR)(c:SheetR)(n:Nat):(Fi h c n).length=n*1:=by
 rw[a0e,Bc _ (Uy _),a0e];simp[Cz]
theorem T8(h:HouseR)(c:SheetR)(n:Nat):Fi h c (n+1)=Fi h c n++([Mr (B5 h c n)].flatten).map AV.lf:=by
 simp[Fi,Cz,a6w]
theorem A15(h:HouseR)(c:SheetR)(hf:h.fits)(hc:c.fits)(v:validP h c):Fz 108 [A0 h.row,A0 c.row] (.tup [.sl ((Cz h c (c.cues.length+1)).map Mr),.i 0]):=by
 have cv:=Yh h c hf hc
 rw[decide_eq_true v]at cv
 obtain⟨_,_,_,hs60,_⟩:=v.1
 have hc60:=v.2.1
 have hle:=lmA h.sets SetR.row
 have hle2:=lmA c.cues CueR.row
 refine Fo Tryz.func108 ?_
 repeat' first|refine WX ?_|refine W2 ?_ ?_<;>intro hc
 refine T.kill 2 ?_
 refine p0c (fun k=>k<=h.sets.length) (fun k=>h.sets.length-k) (fun k=>[(19,.i k),(18,.i (h.sets.map SetR.row).length),(17,.sl (h.sets.map SetR.row)),(6,Afp k),(2,.ptr 0 0),(3,.ptr 1 0)]) (fun k=>[.live (h.row.map .lf),.live (c.row.map .lf),A0j h.sets k]) 0 (a0k _) CV CH ?_
 intro k hk
 by_cases hlt:k<h.sets.length
 ·have h1:(k:Int)<((h.sets.map SetR.row).length:Nat):=by omega
  obtain⟨x,hx⟩:=A2 hlt
  have hb:=A3 (R:=SetR.row) hx
  have hsn:=Ad hx
  cases k with
  |zero=>
   repeat' first|refine WY ?_|refine Zb0 ?_|refine Zbk ?_|refine V ?_|refine W2 ?_ ?_<;>intro hc
   exact Next.go 1 (by omega) (by omega) CV (by
    show CovH _ _ [_,_,.live (A7 ((h.sets.take (0+1)).map SetR.high))]
    rw[Kd hsn]
    exact .live rfl CH)
  |succ k=>
   have hcl:(A7 ((h.sets.take (k+1)).map SetR.high)).length=(k+1)*1:=by rw[C8,a0e,a0x];omega
   repeat' first|refine WY ?_|refine Zb0 ?_|refine Zb2 hcl ?_|refine V ?_|refine W2 ?_ ?_<;>intro hc
   exact Next.go (k+2) (by omega) (by omega) CV (by
    show CovH _ _ [_,_,.live (A7 ((h.sets.take (k+1+1)).map SetR.high))]
    rw[Kd hsn]
    exact .live rfl (.live rfl (.live (by rw[<-a1f];exact Ac _ _) .nil)))
 ·have h1:¬(k:Int)<((h.sets.map SetR.row).length:Nat):=by omega
  refine A86 (h:=h) (k:=k) (by omega) rfl rfl ?_
  repeat' first|refine W ?_|refine Zbt ?_|refine V ?_|refine W2 ?_ ?_<;>intro hc
  refine p0c (fun k=>k<=c.cues.length) (fun k=>c.cues.length-k) (fun k=>[(34,.i k),(33,.i (c.cues.map CueR.row).length),(32,.sl (c.cues.map CueR.row)),(6,.sl ((B5 h c k).map A1)),(9,.own 3 0 (k+1) 1),(2,.ptr 0 0),(3,.ptr 1 0)]) (fun k=>[.live (h.row.map .lf),.live (c.row.map .lf),.dead,.live (Fi h c (k+1))]) 0 (a0k _) CV CH ?_
  intro j hj
  by_cases hlt2:j<c.cues.length
  ·have h2:(j:Int)<((c.cues.map CueR.row).length:Nat):=by omega
   obtain⟨y,hy⟩:=A2 hlt2
   have hb2:=A3 (R:=CueR.row) hy
   have cm:=A9k h (B5 h c j) y hf (by have:=hc.2.2 y (a0a hy);omega) (F6 v hy)
   rw[<-R4 hy]at cm
   have hct:=Vd h c (j+1)
   repeat' first|refine WY ?_|refine Zb0 ?_|refine Zb2 hct ?_|refine V ?_|refine W2 ?_ ?_<;>intro hc
   exact Next.go (j+1) (by omega) (by omega) CV (by
    show CovH _ _ [_,_,_,.live (Fi h c (j+1+1))]
    rw[T8]
    exact .live rfl (.live rfl (.dead (.live (by rw[<-a1f];exact Ac _ _) .nil))))
  ·have h2:¬(j:Int)<((c.cues.map CueR.row).length:Nat):=by omega
   have hj2:j=c.cues.length:=by omega
   repeat' first|refine WX ?_|refine W2 ?_ ?_<;>intro hc
   refine⟨.inr rfl,[_,_],.cons (.tmp rfl) (.cons (.tmp rfl) .nil),.tup (.cons (.one (.own (cells:=Fi h c (j+1)) (rows:=(Cz h c (c.cues.length+1)).map Mr) rfl ?_)) (.cons (.one (.lf _)) .nil))⟩
   have:=OwnRows.of ((Cz h c (j+1)).map Mr).flatten (Uy _) rfl
   rw[a0e,Cz,a0e,a3o]at this
   rw[<-hj2]
   exact this
end Go.Proofs.YtcaicpnepfjcmaaGreat
