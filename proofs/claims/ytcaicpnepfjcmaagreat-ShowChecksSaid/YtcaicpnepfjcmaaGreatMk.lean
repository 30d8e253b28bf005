/- Lemmas of the proof. -/
import Derived.Test.YtcaicpnepfjcmaaGreatMj
set_option linter.all false
set_option maxHeartbeats 64000000
namespace Go.Proofs.YtcaicpnepfjcmaaGreat
open Go Go.RowKit
def b2f:= @Tryz.func202
theorem Wj(n:Int):Fz 264 [.val (.int .u8 n)] (.b (decide (N5 n))):=by
 refine Fo Tryz.func264 ?_
 repeat' first|refine WX ?_|refine W2 ?_ ?_<;>intro hc
 all_goals exact Dd rfl rfl (by simp only[N5];simp[*];try omega)
theorem Aay(n:Int):Fz 295 [.val (.int .u8 n)] (.b (decide (U6 n))):=by
 refine Fo Tryz.func295 ?_
 repeat' first|refine WX ?_|refine W2 ?_ ?_<;>intro hc
 all_goals exact Dd rfl rfl (by simp only[U6];simp[*];try omega)
theorem Aeh(s:ByteArray)(hs:s.size<=9223372036854775807):Fz 265 [.s s,.i 0] (.i (Fw s)):=by
 refine Fo Tryz.func265 ?_
 repeat' first|refine WX ?_|refine W2 ?_ ?_<;>intro hc
 refine p0c (fun k=>k<=Fw s) (fun k=>s.size-k) (fun k=>[(1,.i k),(0,.s s)]) (fun _=>[]) 0 (by omega) CV .nil ?_
 intro k hk
 have hle:=X3 s
 by_cases hlt:k<s.size
 ·have h1:(k:Int)<s.size:=by omega
  obtain⟨c,hc,hc2⟩:=Rz hlt
  have hn:=Ru hk hc2
  have hb:s[((k:Nat):Int).toNat]?=some c:=hc
  repeat' first|refine WY ?_|(apply S.byteAt;(iterate 3 exact rfl);omega;exact hb)|refine Zc (Wj _) ?_|refine Zc (Aay _) ?_|refine V ?_|refine W2 ?_ ?_<;>intro hc
  all_goals first
   |exact Next.go (k+1) (by rw[if_pos (by simp[Kp, *])]at hn;exact hn) (by omega) CV .nil
   |exact Dd rfl rfl (by rw[if_neg (by simp[Kp, *])]at hn;rw[hn])
 ·have h1:¬(k:Int)<s.size:=by omega
  repeat' first|refine WX ?_|refine W2 ?_ ?_<;>intro hc
  exact Dd rfl rfl (by rw[show Fw s=k by omega])
theorem A0d{s:ByteArray}:(s.size:Int)=0↔s=⟨#[]⟩:=by
 constructor
 ·intro h
  exact a1x fun hn=>by have:=Ou hn;omega
 ·rintro rfl;rfl
theorem G7(s:ByteArray):Fz 202 [.s s] (.b (decide (Ec s=true))):=by
 have hz:=A0d (s:=s)
 by_cases h0:(s.size:Int)=0
 ·skip
  refine Fo b2f ?_
  repeat' first|refine WX ?_|refine W2 ?_ ?_<;>intro hc
  all_goals exact Dd rfl rfl (by simp[Ec,hz.1 h0])
 ·have h0':¬s=(⟨#[]⟩:ByteArray):=fun h=>h0 (hz.2 h)
  obtain⟨c,hc,_⟩:=Rz (Ou h0')
  have hb:s[((0:Int)).toNat]?=some c:=hc
  by_cases h1:(20:Int)<s.size
  ·skip
   refine Fo b2f ?_
   repeat' first|refine WX ?_|refine W2 ?_ ?_<;>intro hc
   all_goals exact Dd rfl rfl (by simp[Ec];omega)
  ·have hw:=Aeh s (by omega)
   refine Fo b2f ?_
   repeat' first|refine WY ?_|refine Zc (Wj _) ?_|(apply S.byteAt;(iterate 3 exact rfl);omega;exact hb)|refine V ?_|refine W2 ?_ ?_<;>intro hc
   all_goals exact Dd rfl rfl (by simp_all[Ec];try omega)

/-! ### Beams -/
theorem A4b(n lo hi:Int):Fz 275 [.i n,.i lo,.i hi] (.b (decide (lo<=n/\n<=hi))):=by
 refine Fo Tryz.func275 ?_
 repeat' first|refine WX ?_|refine W2 ?_ ?_<;>intro hc
 all_goals exact Dd rfl rfl (by simp[*])
theorem I2(n lo hi:Int):Fz 203 [.i n,.i lo,.i hi] (.b (decide (lo<=n/\n<=hi))):=by
 refine Fo Tryz.func203 ?_
 repeat' first|refine WX ?_|refine W2 ?_ ?_<;>intro hc
 all_goals exact Dd rfl rfl (by simp[*])
theorem Mg{α:Type}{nm:α->ByteArray}{l:List α}(h:(l.map nm).Nodup){j k:Nat}{x y:α}(hj:l[j]?=some y)(hk:l[k]?=some x)(hjk:j<k):nm y≠nm x:=by
 unfold List.Nodup at h
 rw[a3r]at h
 obtain⟨h1,e1⟩:=a0f.1 hj
 obtain⟨h2,e2⟩:=a0f.1 hk
 have:=h j k (by simpa using h1) (by simpa using h2) hjk
 simpa[e1,e2]using this
theorem Ad{α:Type}{l:List α}{k:Nat}{x:α}(hx:l[k]?=some x):l.take (k+1)=l.take k++[x]:=by rw[a0u,hx];rfl
theorem A3{α:Type}{l:List α}{R:α->List Lf}{k:Nat}{x:α}(hx:l[k]?=some x):(l.map R)[((k:Nat):Int).toNat]?=some (R x):=by rw[a0q,a0d,hx];rfl
theorem A2{α:Type}{l:List α}{k:Nat}(h:k<l.length):∃x,l[k]?=some x:=⟨l[k],a0b h⟩
theorem Aaz(l:List RoofR)(hs:l.length<=9223372036854775807):Fz 216 [.sl (l.map RoofR.row)] (.b (decide (Ws l))):=by
 have hle:=lmA l RoofR.row
 refine Fo Tryz.func216 ?_
 repeat' first|refine WX ?_|refine W2 ?_ ?_<;>intro hc
 all_goals first
  |exact Dd rfl rfl (congrArg Value.bool (decide_eq_false (fun h=>by have:=h.1;omega)).symm)
  |skip
 have hs20:l.length<=20:=by omega
 refine p0c (fun k=>k<=l.length/\(∀x∈l.take k,Ss x)/\((l.take k).map RoofR.name).Nodup) (fun k=>l.length-k) (fun k=>[(3,.i k),(0,.sl (l.map RoofR.row))]) (fun _=>[]) 0 ⟨a0k _,by simp⟩ CV .nil ?_
 rintro k ⟨hk,hok,hnd⟩
 by_cases hlt:k<l.length
 ·have h1:(k:Int)<((l.map RoofR.row).length:Nat):=by omega
  obtain⟨x,hx⟩:=A2 hlt
  have hb:=A3 (R:=RoofR.row) hx
  have hsn:=Ad hx
  have hmem:x∈l:=a0a hx
  repeat' first|refine WY ?_|refine Zb5 ?_|refine Zc (G7 _) ?_|refine Zc (A4b _ _ _) ?_|refine V ?_|refine W2 ?_ ?_<;>intro hc
  all_goals first
   |exact Dd rfl rfl (congrArg Value.bool (decide_eq_false (fun h=>by
    have h3:=h.2.1 x hmem
    unfold Ss at h3
    first|contradiction|omega|(simp_all;done))).symm)
   |skip
  have hxr:Ss x:=⟨by assumption,by omega,by omega,by omega,by omega,by omega⟩
  refine p0c (fun j=>j<=k/\∀y∈l.take j,y.name≠x.name) (fun j=>k-j) (fun j=>[(5,.i j),(3,.i k),(0,.sl (l.map RoofR.row)),(4,.ptr 0 0)]) (fun _=>[.live (x.row.map .lf)]) 0 ⟨a0k _,by simp⟩ CV (.live rfl .nil) ?_
  rintro j ⟨hj,hne⟩
  by_cases hjk:j<k
  ·have h2:(j:Int)<k:=by omega
   obtain⟨y,hy⟩:=A2 (l:=l) (k:=j) (by omega)
   have hby:=A3 (R:=RoofR.row) hy
   have hsj:=Ad hy
   repeat' first|refine WY ?_|(apply p0u A8 (by kernel_rfl))|refine V ?_|refine W2 ?_ ?_<;>intro hc
   all_goals first
    |exact Next.go (j+1) ⟨by omega,by rw[hsj];intro z hz;rcases a0p.1 hz with hz|hz;exact hne z hz;obtain rfl:z=y:=(by simpa using hz);assumption⟩ (by omega) CV (.live rfl .nil)
    |exact Dd rfl rfl (congrArg Value.bool (decide_eq_false (fun h=>Mg h.2.2 hy hx hjk (by assumption))).symm)
  ·have h2:¬(j:Int)<k:=by omega
   obtain rfl:j=k:=by omega
   repeat' first|refine WX ?_|refine W2 ?_ ?_<;>intro hc
   exact Next.go (j+1) ⟨by omega,by rw[hsn];intro y hy;rcases a0p.1 hy with hy|hy;exact hok y hy;obtain rfl:y=x:=(by simpa using hy);exact hxr,by rw[hsn];exact(Ct _ _ _).2 ⟨hnd,fun⟨y,hy,he⟩=>hne y hy he⟩⟩ (by omega) CV .nil
 ·have h1:¬(k:Int)<((l.map RoofR.row).length:Nat):=by omega
  have hk2:l.take k=l:=a0g (by omega)
  rw[hk2]at hok hnd
  repeat' first|refine WX ?_|refine W2 ?_ ?_<;>intro hc
  exact Dd rfl rfl (congrArg Value.bool (decide_eq_true ⟨hs20,hok,hnd⟩).symm)
theorem Ab0(x:ItemR)(l:Int)(hl:0<=l/\l<=1048576):Fz 266 [A0 x.row,.i l] (.b (decide (J6 x/\Fl x l))):=by
 refine Fo Tryz.func266 ?_
 repeat' first|refine WY ?_|refine Zc (G7 _) ?_|refine Zc (I2 _ _ _) ?_|refine V ?_|refine W2 ?_ ?_<;>intro hc
 all_goals exact Dd rfl rfl (by simp only[J6,Fl];simp[*])
theorem Ab1(x y:ItemR)(hx:0<=x.at_/\x.at_<=1048576/\0<=x.width/\x.width<=1048576)(hy:0<=y.at_/\y.at_<=1048576/\0<=y.width/\y.width<=1048576):Fz 267 [A0 x.row,A0 y.row] (.b (decide (E2 x y))):=by
 refine Fo Tryz.func267 ?_
 repeat' first|refine WX ?_|refine W2 ?_ ?_<;>intro hc
 all_goals exact Dd rfl rfl (by simp only[E2];simp[*])
theorem apart_comm{x y:ItemR}:E2 x y↔E2 y x:=by unfold E2;exact Or.comm
theorem Agn{α:Type}{R:α->α->Prop}{l:List α}(h:l.Pairwise R){i j:Nat}{a b:α}(hi:l[i]?=some a)(hj:l[j]?=some b)(hij:i<j):R a b:=by
 rw[a3r]at h
 obtain⟨h1,rfl⟩:=a0f.1 hi
 obtain⟨h2,rfl⟩:=a0f.1 hj
 exact h i j h1 h2 hij
theorem Ab2(s:SetR)(hl:0<=s.length/\s.length<=1048576)(hs:s.items.length<=9223372036854775807):Fz 204 [A0 s.row] (.b (decide (Vt s.items s.length))):=by
 have hle:=lmA s.items ItemR.row
 refine Fo Tryz.func204 ?_
 repeat' first|refine WX ?_|refine W2 ?_ ?_<;>intro hc
 all_goals first
  |exact Dd rfl rfl (congrArg Value.bool (decide_eq_false (fun h=>by have:=h.1;omega)).symm)
  |skip
 have hs40:s.items.length<=40:=by omega
 refine p0c (fun k=>k<=s.items.length/\okI s.length (s.items.take k)/\((s.items.take k).map ItemR.name).Nodup) (fun k=>s.items.length-k) (fun k=>[(3,.i k),(1,.ptr 0 0)]) (fun _=>[.live (s.row.map .lf)]) 0 ⟨a0k _,by simp[okI]⟩ CV (.live rfl .nil) ?_
 rintro k ⟨hk,hok,hnd⟩
 by_cases hlt:k<s.items.length
 ·have h1:(k:Int)<((s.items.map ItemR.row).length:Nat):=by omega
  obtain⟨x,hx⟩:=A2 hlt
  have hb:=A3 (R:=ItemR.row) hx
  have hsn:=Ad hx
  have hmem:x∈s.items:=a0a hx
  repeat' first|refine WY ?_|(apply p0u A8 (by kernel_rfl))|refine Zb5 ?_|refine Zc (Ab0 x s.length hl) ?_|refine V ?_|refine W2 ?_ ?_<;>intro hc
  all_goals first
   |exact Dd rfl rfl (congrArg Value.bool (decide_eq_false (fun h=>absurd (h.2.2.1 x hmem) (by assumption))).symm)
   |skip
  have hxr:J6 x/\Fl x s.length:=by first|assumption|exact a1x (by assumption)
  refine p0c (fun j=>j<=k/\∀y∈s.items.take j,y.name≠x.name/\E2 y x) (fun j=>k-j) (fun j=>[(4,.i j),(3,.i k),(1,.ptr 0 0)]) (fun _=>[.live (s.row.map .lf)]) 0 ⟨a0k _,by simp⟩ CV (.live rfl .nil) ?_
  rintro j ⟨hj,hne⟩
  by_cases hjk:j<k
  ·have h2:(j:Int)<k:=by omega
   obtain⟨y,hy⟩:=A2 (l:=s.items) (k:=j) (by omega)
   have hby:=A3 (R:=ItemR.row) hy
   have hsj:=Ad hy
   have hyk:y∈s.items.take k:=a0a (by rw[a1o hjk];exact hy)
   have hyr:=hok.1 y hyk
   repeat' first|refine WY ?_|(apply p0u A8 (by kernel_rfl))|refine Zb5 ?_|refine Zbi (Ab1 y x (I6 hl hyr.2) (I6 hl hxr.2)) ?_|refine V ?_|refine W2 ?_ ?_<;>intro hc
   all_goals first
    |exact Next.go (j+1) ⟨by omega,by rw[hsj];intro z hz;rcases a0p.1 hz with hz|hz;exact hne z hz;obtain rfl:z=y:=(by simpa using hz);exact⟨by assumption,by first|assumption|exact a1x (by assumption)⟩⟩ (by omega) CV (.live rfl .nil)
    |exact Dd rfl rfl (congrArg Value.bool (decide_eq_false (fun h=>by
     have h3:=Mg h.2.1 hy hx hjk
     have h4:=apart_comm.1 (Agn h.2.2.2 hy hx hjk)
     contradiction)).symm)
  ·have h2:¬(j:Int)<k:=by omega
   obtain rfl:j=k:=by omega
   repeat' first|refine WX ?_|refine W2 ?_ ?_<;>intro hc
   exact Next.go (j+1) ⟨by omega,by rw[hsn];exact okI_snoc.2 ⟨hok,hxr,fun y hy=>apart_comm.1 (hne y hy).2⟩,by rw[hsn];exact(Ct _ _ _).2 ⟨hnd,fun⟨y,hy,he⟩=>(hne y hy).1 he⟩⟩ (by omega) CV (.live rfl .nil)
 ·have h1:¬(k:Int)<((s.items.map ItemR.row).length:Nat):=by omega
  have hk2:s.items.take k=s.items:=a0g (by omega)
  rw[hk2]at hok hnd
  repeat' first|refine WX ?_|refine W2 ?_ ?_<;>intro hc
  exact Dd rfl rfl (congrArg Value.bool (decide_eq_true ⟨hs40,hnd,hok⟩).symm)
theorem A7v(l:List BrickR)(hs:l.length<=9223372036854775807):Fz 205 [.sl (l.map BrickR.row)] (.b (decide (Ry l))):=by
 have hle:=lmA l BrickR.row
 refine Fo Tryz.func205 ?_
 repeat' first|refine WX ?_|refine W2 ?_ ?_<;>intro hc
 all_goals first
  |exact Dd rfl rfl (congrArg Value.bool (decide_eq_false (fun h=>by have:=h.1;omega)).symm)
  |skip
 have hs8:l.length<=8:=by omega
 refine p0c (fun k=>k<=l.length/\(∀x∈l.take k,M3 x)/\((l.take k).map BrickR.name).Nodup) (fun k=>l.length-k) (fun k=>[(4,.i k),(0,.sl (l.map BrickR.row)),(3,.i (K9 (l.take k)))]) (fun _=>[]) 0 ⟨a0k _,by simp⟩ CV .nil ?_
 rintro k ⟨hk,hok,hnd⟩
 have hsum:=A6k hok
 have hlk:(l.take k).length<=8:=by simp;omega
 by_cases hlt:k<l.length
 ·have h1:(k:Int)<((l.map BrickR.row).length:Nat):=by omega
  obtain⟨x,hx⟩:=A2 hlt
  have hb:=A3 (R:=BrickR.row) hx
  have hsn:=Ad hx
  have hmem:x∈l:=a0a hx
  repeat' first|refine WY ?_|(apply p0u A8 (by kernel_rfl))|refine Zb5 ?_|refine Zc (G7 _) ?_|refine Zc (I2 _ _ _) ?_|refine V ?_|refine W2 ?_ ?_<;>intro hc
  all_goals first
   |exact Dd rfl rfl (congrArg Value.bool (decide_eq_false (fun h=>by
    have h3:=h.2.2.1 x hmem
    unfold M3 at h3
    first|contradiction|omega|(simp_all;done))).symm)
   |skip
  have hxr:M3 x:=⟨by assumption,by omega,by omega⟩
  refine p0c (fun j=>j<=k/\∀y∈l.take j,y.name≠x.name) (fun j=>k-j) (fun j=>[(5,.i j),(4,.i k),(0,.sl (l.map BrickR.row)),(3,.i (K9 (l.take (k+1))))]) (fun _=>[]) 0 ⟨a0k _,by simp⟩ (.cons rfl rfl (.cons rfl rfl (.cons rfl rfl (.cons (by rw[hsn,Zv];rfl) rfl .nil)))) .nil ?_
  rintro j ⟨hj,hne⟩
  by_cases hjk:j<k
  ·have h2:(j:Int)<k:=by omega
   obtain⟨y,hy⟩:=A2 (l:=l) (k:=j) (by omega)
   have hby:=A3 (R:=BrickR.row) hy
   have hsj:=Ad hy
   repeat' first|refine WY ?_|(apply p0u A8 (by kernel_rfl))|refine V ?_|refine W2 ?_ ?_<;>intro hc
   all_goals first
    |exact Next.go (j+1) ⟨by omega,by rw[hsj];intro z hz;rcases a0p.1 hz with hz|hz;exact hne z hz;obtain rfl:z=y:=(by simpa using hz);assumption⟩ (by omega) CV .nil
    |exact Dd rfl rfl (congrArg Value.bool (decide_eq_false (fun h=>Mg h.2.1 hy hx hjk (by assumption))).symm)
  ·have h2:¬(j:Int)<k:=by omega
   obtain rfl:j=k:=by omega
   repeat' first|refine WX ?_|refine W2 ?_ ?_<;>intro hc
   exact Next.go (j+1) ⟨by omega,by rw[hsn];intro y hy;rcases a0p.1 hy with hy|hy;exact hok y hy;obtain rfl:y=x:=(by simpa using hy);exact hxr,by rw[hsn];exact(Ct _ _ _).2 ⟨hnd,fun⟨y,hy,he⟩=>hne y hy he⟩⟩ (by omega) CV .nil
 ·have h1:¬(k:Int)<((l.map BrickR.row).length:Nat):=by omega
  have hk2:l.take k=l:=a0g (by omega)
  rw[hk2]at hok hsum hnd
  rw[hk2]
  repeat' first|refine WX ?_|refine W2 ?_ ?_<;>intro hc
  exact Dd rfl rfl (congrArg Value.bool (decide_eq_decide.2 ⟨fun h=>⟨hs8,hnd,hok,h⟩,fun h=>h.2.2.2⟩))
/-! ### Line sets and houses -/
theorem Re(s:SetR)(hf:s.fits):Fz 119 [A0 s.row] (.b (decide (Cb s))):=by
 have hle:=lmA s.lines A1
 refine Fo Tryz.func119 ?_
 repeat' first|refine W ?_|refine Zc (G7 _) ?_|refine Zc (I2 _ _ _) ?_|(apply S.rem;(iterate 3 exact rfl);omega)|refine V ?_|refine W2 ?_ ?_<;>intro hc
 all_goals first
  |exact Dd rfl rfl (congrArg Value.bool (decide_eq_false (fun h=>by
   obtain⟨g1,g2,g3,g4,g5,g6,g7,g8,g9,g10,g11,g12,g13,_⟩:=h
   have g14:=g8.1
   first|contradiction|omega)).symm)
  |skip
 have hln:2<=s.lines.length/\s.lines.length<=10:=by omega
 have hlen:0<=s.length/\s.length<=1048576:=by omega
 refine p0c (fun k=>k<=s.lines.length/\(∀x∈s.lines.take k,0<=x/\x<=s.length)/\(s.lines.take k).Pairwise (· < ·)) (fun k=>s.lines.length-k) (fun k=>[(3,.i k),(1,.ptr 0 0)]) (fun _=>[.live (s.row.map .lf)]) 0 ⟨a0k _,by simp,by simp⟩ CV (.live rfl .nil) ?_
 rintro k ⟨hk,hin,hpw⟩
 by_cases hlt:k<s.lines.length
 ·have h1:(k:Int)<((s.lines.map A1).length:Nat):=by omega
  obtain⟨x,hx⟩:=A2 hlt
  have hb:=A3 (R:=A1) hx
  have hsn:=Ad hx
  have hmem:x∈s.lines:=a0a hx
  rcases a3e k with rfl|hpos
  ·have h0:¬(((0:Nat)):Int)>0:=by omega
   have h0':¬(0:Int)<(((0:Nat)):Int):=by omega
   repeat' first|refine WY ?_|(apply p0u A8 (by kernel_rfl))|refine Zc (I2 _ _ _) ?_|refine V ?_|refine W2 ?_ ?_<;>intro hc
   all_goals first
    |exact Next.go (0+1) ⟨by omega,by rw[hsn];intro y hy;obtain rfl:y=x:=(by simpa using hy);omega,by rw[hsn];simp⟩ (by omega) CV (.live rfl .nil)
    |exact Dd rfl rfl (congrArg Value.bool (decide_eq_false (fun h=>by
     obtain⟨g1,g2,g3,g4,g5,g6,g7,g8,_⟩:=h
     have:=g8.2.1 x hmem
     first|contradiction|omega)).symm)
  ·obtain⟨j,rfl⟩:∃j,k=j+1:=⟨k-1,by omega⟩
   have h0:(((j+1:Nat)):Int)>0:=by omega
   have h0':(0:Int)<(((j+1:Nat)):Int):=by omega
   obtain⟨y,hy⟩:=A2 (l:=s.lines) (k:=j) (by omega)
   have hb2:(s.lines.map A1)[((((j+1:Nat)):Int)-1).toNat]?=some (A1 y):=by rw[show((((j+1:Nat)):Int)-1).toNat=j by omega,a0d,hy];rfl
   have hps:=A5z hpw hy hx
   repeat' first|refine WY ?_|(apply p0u A8 (by kernel_rfl))|refine Zc (I2 _ _ _) ?_|refine V ?_|refine W2 ?_ ?_<;>intro hc
   all_goals first
    |exact Next.go (j+1+1) ⟨by omega,by rw[hsn];intro z hz;rcases a0p.1 hz with hz|hz;exact hin z hz;obtain rfl:z=x:=(by simpa using hz);omega,hps.2 (by omega)⟩ (by omega) CV (.live rfl .nil)
    |exact Dd rfl rfl (congrArg Value.bool (decide_eq_false (fun h=>by
     obtain⟨g1,g2,g3,g4,g5,g6,g7,g8,_⟩:=h
     have h3:=g8.2.1 x hmem
     have h4:=Rc g8.2.2 hy hx (by omega)
     first|contradiction|omega)).symm)
 ·have h1:¬(k:Int)<((s.lines.map A1).length:Nat):=by omega
  have hk2:s.lines.take k=s.lines:=a0g (by omega)
  rw[hk2]at hin hpw
  have hlines:Vx s.lines s.length:=⟨hln,hin,hpw⟩
  repeat' first|refine W ?_|refine Zc (Ab2 s hlen hf.2.1) ?_|refine Zc (A7v s.bricks hf.2.2) ?_|refine V ?_|refine W2 ?_ ?_<;>intro hc
  all_goals exact Dd rfl rfl (by simp only[Cb];simp_all;try omega)
theorem Ud{α:Type}{p:α->Prop}[DecidablePred p]{l:List α}{k:Nat}(h:∀x∈l.take k,¬p x)(hk:l.length<=k):idx p l= -1:=Em (by rw[a0g hk]at h;exact h)
theorem Gn(h:HouseR)(n:ByteArray)(hs:h.sets.length<=9223372036854775807):Fz 116 [A0 h.row,.s n] (.i (Aa h n)):=by
 have hle:=lmA h.sets SetR.row
 refine Fo Tryz.func116 ?_
 repeat' first|refine WX ?_|refine W2 ?_ ?_<;>intro hc
 refine p0c (fun k=>k<=h.sets.length/\∀s∈h.sets.take k,¬s.name=n) (fun k=>h.sets.length-k) (fun k=>[(5,.i k),(2,.ptr 0 0),(1,.s n)]) (fun _=>[.live (h.row.map .lf)]) 0 ⟨a0k _,by simp⟩ CV (.live rfl .nil) ?_
 rintro k ⟨hk,hno⟩
 by_cases hlt:k<h.sets.length
 ·have h1:(k:Int)<((h.sets.map SetR.row).length:Nat):=by omega
  obtain⟨x,hx⟩:=A2 hlt
  have hb:=A3 (R:=SetR.row) hx
  have hsn:=Ad hx
  repeat' first|refine WY ?_|(apply p0u A8 (by kernel_rfl))|refine V ?_|refine W2 ?_ ?_<;>intro hc
  all_goals first
   |exact Next.go (k+1) ⟨by omega,by rw[hsn];intro y hy;rcases a0p.1 hy with hy|hy;exact hno y hy;obtain rfl:y=x:=(by simpa using hy);assumption⟩ (by omega) CV (.live rfl .nil)
   |exact Dd rfl rfl (by rw[Aa,Fk hx hno (by assumption)])
 ·have h1:¬(k:Int)<((h.sets.map SetR.row).length:Nat):=by omega
  repeat' first|refine WX ?_|refine W2 ?_ ?_<;>intro hc
  exact Dd rfl rfl (by rw[Aa,Ud hno (by omega)])
theorem Ab7(h:HouseR)(hf:h.fits):Fz 154 [A0 h.row] (.b (decide (Bv h))):=by
 obtain⟨hf1,hf2,hf3⟩:=hf
 have hle:=lmA h.sets SetR.row
 refine Fo Tryz.func154 ?_
 repeat' first|refine W ?_|refine Zc (G7 _) ?_|refine Zc (Aaz h.roofs hf2) ?_|refine V ?_|refine W2 ?_ ?_<;>intro hc
 all_goals first
  |exact Dd rfl rfl (congrArg Value.bool (decide_eq_false (fun hh=>by
   obtain⟨g1,g2,g3,g4,g5,_⟩:=hh
   first|contradiction|omega)).symm)
  |skip
 have hs60:h.sets.length<=60:=by omega
 refine p0c (fun k=>k<=h.sets.length/\(∀s∈h.sets.take k,Cb s/\s.high<=h.height)/\((h.sets.take k).map SetR.name).Nodup) (fun k=>h.sets.length-k) (fun k=>[(3,.i k),(1,.ptr 0 0)]) (fun _=>[.live (h.row.map .lf)]) 0 ⟨a0k _,by simp⟩ CV (.live rfl .nil) ?_
 rintro k ⟨hk,hok,hnd⟩
 by_cases hlt:k<h.sets.length
 ·have h1:(k:Int)<((h.sets.map SetR.row).length:Nat):=by omega
  obtain⟨x,hx⟩:=A2 hlt
  have hb:=A3 (R:=SetR.row) hx
  have hsn:=Ad hx
  have hmem:x∈h.sets:=a0a hx
  have hidx:Aa h x.name=(k:Int)↔_:=Hn (p:=fun s:SetR=>s.name=x.name) hx rfl
  repeat' first|refine WY ?_|(apply p0u A8 (by kernel_rfl))|refine Zb5 ?_|refine Zbi (Re x (hf3 x hmem)) ?_|refine Zc (Gn h x.name hf1) ?_|refine V ?_|refine W2 ?_ ?_<;>intro hc
  all_goals first
   |exact Next.go (k+1) ⟨by omega,by rw[hsn];intro y hy;rcases a0p.1 hy with hy|hy;exact hok y hy;obtain rfl:y=x:=(by simpa using hy);exact⟨by assumption,by omega⟩,by rw[hsn];exact(Ct _ _ _).2 ⟨hnd,hidx.1 (by first|assumption|exact a1x (by assumption))⟩⟩ (by omega) CV (.live rfl .nil)
   |exact Dd rfl rfl (congrArg Value.bool (decide_eq_false (fun hh=>by
    obtain⟨_,_,_,_,_,g6,g7⟩:=hh
    have h3:=g6 x hmem
    have h4:=Li g7 (k+1)
    rw[hsn]at h4
    have h5:=hidx.2 ((Ct _ _ _).1 h4).2
    first|contradiction|exact absurd h3.1 (by assumption)|(have:=h3.2;omega))).symm)
 ·have h1:¬(k:Int)<((h.sets.map SetR.row).length:Nat):=by omega
  have hk2:h.sets.take k=h.sets:=a0g (by omega)
  rw[hk2]at hok hnd
  repeat' first|refine WX ?_|refine W2 ?_ ?_<;>intro hc
  exact Dd rfl rfl (congrArg Value.bool (decide_eq_true ⟨by assumption,by omega,by omega,hs60,by assumption,hok,hnd⟩).symm)
/-! ### Moves -/
structure MoveR where
 set:ByteArray
 to:Int
 speed:Int
 rise:Int
 fall:Int
def MoveR.row(m:MoveR):List Lf:=[.s m.set,.i m.to,.i m.speed,.i m.rise,.i m.fall]
structure CueR where
 name:ByteArray
 after:ByteArray
 link:Int
 delay:Int
 moves:List MoveR
 crew:Int
 power:Int
def CueR.row(q:CueR):List Lf:=[.s q.name,.s q.after,.i q.link,.i q.delay,.sl (q.moves.map MoveR.row),.i q.crew,.i q.power]
def Cm(m:MoveR):Prop:=Ec m.set=true/\(-1048576<=m.to/\m.to<=1048576)/\(1<=m.speed/\m.speed<=8192)/\(1<=m.rise/\m.rise<=16384)/\1<=m.fall/\m.fall<=16384
instance (m:MoveR):Decidable (Cm m):=by unfold Cm;exact inferInstance
theorem Tl(n lo hi:Int):Fz 279 [.i n,.i lo,.i hi] (.b (decide (lo<=n/\n<=hi))):=by
 refine Fo Tryz.func279 ?_
 repeat' first|refine WX ?_|refine W2 ?_ ?_<;>intro hc
 all_goals exact Dd rfl rfl (by simp[*])
theorem Pd(m:MoveR):Fz 278 [A0 m.row] (.b (decide (Cm m))):=by
 refine Fo Tryz.func278 ?_
 repeat' first|refine W ?_|refine Zc (F1 _) ?_|refine Zc (Tl _ _ _) ?_|refine V ?_|refine W2 ?_ ?_<;>intro hc
 all_goals exact Dd rfl rfl (by simp only[Cm];simp[*])
theorem A7w(n hi:Int):Fz 276 [.i n,.i hi] (.b (decide (1<=n/\n<=hi))):=by
 refine Fo Tryz.func276 ?_
 repeat' first|refine WX ?_|refine W2 ?_ ?_<;>intro hc
 all_goals exact Dd rfl rfl (by simp[*])
theorem Zb(m:MoveR):Fz 217 [A0 m.row] (.b (decide (Cm m))):=by
 refine Fo Tryz.func217 ?_
 repeat' first|refine W ?_|refine Zc (G7 _) ?_|refine Zc (A7w _ _) ?_|refine V ?_|refine W2 ?_ ?_<;>intro hc
 all_goals exact Dd rfl rfl (by simp only[Cm];simp_all;try omega)

/-! ### Cues that are right -/
def moveIn(h:HouseR)(m:MoveR):Prop:=Cm m/\∃s,0<=Aa h m.set/\h.sets[(Aa h m.set).toNat]?=some s/\s.low<=m.to/\m.to<=s.high
def Eo(h:HouseR)(q:CueR):Prop:=Ec q.name=true/\(1<=q.link/\q.link<=3)/\(0<=q.delay/\q.delay<=2147483648)/\(0<=q.crew/\q.crew<=100)/\(0<=q.power/\q.power<=100)/\(∀m∈q.moves,moveIn h m)/\(q.moves.map MoveR.set).Nodup
noncomputable instance (h:HouseR)(q:CueR):Decidable (Eo h q):=Classical.propDecidable _
theorem Iu{α:Type}{p:α->Prop}[DecidablePred p]{l:List α}(h:¬idx p l<0):∃x,l[(idx p l).toNat]?=some x:=by
 have:=Qv p l
 exact⟨l[(idx p l).toNat]'(by omega),a0b _⟩
theorem Ft{α:Type}{l:List α}{R:α->List Lf}{i:Int}{x:α}(hx:l[i.toNat]?=some x):(l.map R)[i.toNat]?=some (R x):=by rw[a0d,hx];rfl
theorem W0{h:HouseR}{m:MoveR}{s:SetR}(hk:¬Aa h m.set<0)(hs:h.sets[(Aa h m.set).toNat]?=some s):moveIn h m↔Cm m/\s.low<=m.to/\m.to<=s.high:=by
 constructor
 ·rintro⟨h1,t,h2,h3,h4⟩
  rw[hs]at h3;injection h3 with h3;subst h3
  exact⟨h1,h4⟩
 ·rintro⟨h1,h2⟩
  exact⟨h1,s,by omega,hs,h2⟩
theorem A7c(m x:MoveR):Fz 292 [A0 x.row,.rop m.row] (.b (decide (x.set=m.set))):=by
 refine Fo Tryz.func292 ?_
 repeat' first|refine WX ?_|refine W2 ?_ ?_<;>intro hc
 all_goals exact Dd rfl rfl (by rfl)
theorem Xw(l:List MoveR)(k:Nat)(m:MoveR)(hs:l.length<=9223372036854775807):
  Fz 291 [.sl ((l.map MoveR.row).take ((k:Nat):Int).toNat),.fn (.func 292) [] [.rop m.row]] (.b (decide (∃y∈l.take k,y.set=m.set))):=by
 rw[a0q,<-a6u]
 exact U4 (l.take k) MoveR.row (fun y=>y.set=m.set) _ _ (fun _=>rfl) (by simp;omega) rfl fun y hy=>A7c m y
theorem Tk{h:HouseR}{q:CueR}{k:Nat}{m:MoveR}(hm:q.moves[k]?=some m)(hn:¬moveIn h m\/∃y∈q.moves.take k,y.set=m.set):¬Eo h q:=by
 rintro⟨_,_,_,_,_,h6,h7⟩
 rcases hn with hn|hn
 ·exact hn (h6 m (a0a hm))
 ·have h4:=Li h7 (k+1)
  rw[Ad hm]at h4
  exact((Ct _ _ _).1 h4).2 hn
theorem Yg(h:HouseR)(q:CueR)(hf:h.sets.length<=9223372036854775807)(hq:q.moves.length<=9223372036854775807):Fz 253 [A0 h.row,A0 q.row] (.b (decide (Eo h q))):=by
 have hle:=lmA q.moves MoveR.row
 have hles:=lmA h.sets SetR.row
 refine Fo Tryz.func253 ?_
 repeat' first|refine W ?_|refine Zc (F1 _) ?_|refine Zc (Ke _ _ _) ?_|refine V ?_|refine W2 ?_ ?_<;>intro hc
 all_goals first
  |exact Dd rfl rfl (congrArg Value.bool (decide_eq_false (fun hh=>by
   obtain⟨g1,g2,g3,g4,g5,_⟩:=hh
   first|contradiction|omega)).symm)
  |skip
 all_goals
  refine p0c (fun k=>k<=q.moves.length/\(∀m∈q.moves.take k,moveIn h m)/\((q.moves.take k).map MoveR.set).Nodup) (fun k=>q.moves.length-k) (fun k=>[(48,.i k),(47,.i (q.moves.map MoveR.row).length),(46,.sl (q.moves.map MoveR.row)),(2,.ptr 0 0),(3,.ptr 1 0)]) (fun _=>[.live (h.row.map .lf),.live (q.row.map .lf)]) 0 ⟨a0k _,by simp⟩ CV CH ?_
  rintro k ⟨hk,hok,hnd⟩
  by_cases hlt:k<q.moves.length
  ·have h1:(k:Int)<((q.moves.map MoveR.row).length:Nat):=by omega
   obtain⟨m,hm⟩:=A2 hlt
   have hb:=A3 (R:=MoveR.row) hm
   have hsn:=Ad hm
   have hmf:=Tk (h:=h) hm
   by_cases hk0:Aa h m.set<0
   ·have hbad:¬moveIn h m:=fun⟨_,_,hh,_⟩=>by omega
    repeat' first|refine WY ?_|(apply p0u A8 (by kernel_rfl))|refine Zb5 ?_|refine Zc (Pd m) ?_|refine Zc (S8 h m.set hf) ?_|refine Zc (Ke _ _ _) ?_|refine V ?_|refine W2 ?_ ?_<;>intro hc
    all_goals exact Dd rfl rfl (congrArg Value.bool (decide_eq_false (hmf (.inl hbad))).symm)
   ·obtain⟨s,hs⟩:=Iu hk0
    have hbs:=Ft (R:=SetR.row) hs
    have hin:=W0 hk0 hs
    have hid:=Qv (fun s:SetR=>s.name=m.set) h.sets
    repeat' first|refine WY ?_|(apply p0u A8 (by kernel_rfl))|refine Zb5 ?_|refine Zc (Pd m) ?_|refine Zc (S8 h m.set hf) ?_|refine Zc (Ke _ _ _) ?_|(apply p1o;(iterate 3 exact rfl);omega;(intro row hr;obtain⟨z,_,rfl⟩:=a1d.1 hr;rfl))|(apply S.callV;exact rfl;exact Xw q.moves k m hq;exact .cons (.one (.lf _)) (.cons (.fn (.cons (.ptr0 rfl) .nil)) .nil);exact rfl;exact rfl)|refine V ?_|refine W2 ?_ ?_<;>intro hc
    all_goals first
     |exact Next.go (k+1) ⟨by omega,by rw[hsn];intro y hy;rcases a0p.1 hy with hy|hy;exact hok y hy;obtain rfl:y=m:=(by simpa using hy);exact hin.2 ⟨by assumption,by assumption⟩,by rw[hsn];exact(Ct _ _ _).2 ⟨hnd,by assumption⟩⟩ (by omega) CV CH
     |exact Dd rfl rfl (congrArg Value.bool (decide_eq_false (hmf (.inr (by assumption)))).symm)
     |exact Dd rfl rfl (congrArg Value.bool (decide_eq_false (hmf (.inl (fun hh=>by
      have h3:=hin.1 hh
      first|exact absurd h3.1 (by assumption)|exact absurd h3.2 (by assumption))))).symm)
  ·have h1:¬(k:Int)<((q.moves.map MoveR.row).length:Nat):=by omega
   have hk2:q.moves.take k=q.moves:=a0g (by omega)
   rw[hk2]at hok hnd
   repeat' first|refine WX ?_|refine W2 ?_ ?_<;>intro hc
   exact Dd rfl rfl (congrArg Value.bool (decide_eq_true ⟨by assumption,by omega,by omega,by omega,by omega,hok,hnd⟩).symm)
theorem Abb(h:HouseR)(q:CueR)(hf:h.sets.length<=9223372036854775807)(hq:q.moves.length<=9223372036854775807):Fz 155 [A0 h.row,A0 q.row] (.b (decide (Eo h q))):=by
 have hle:=lmA q.moves MoveR.row
 have hles:=lmA h.sets SetR.row
 refine Fo Tryz.func155 ?_
 repeat' first|refine W ?_|refine Zc (G7 _) ?_|refine V ?_|refine W2 ?_ ?_<;>intro hc
 all_goals first
  |exact Dd rfl rfl (congrArg Value.bool (decide_eq_false (fun hh=>by
   obtain⟨g1,g2,g3,g4,g5,_⟩:=hh
   first|contradiction|omega)).symm)
  |skip
 refine p0c (fun k=>k<=q.moves.length/\(∀m∈q.moves.take k,moveIn h m)/\((q.moves.take k).map MoveR.set).Nodup) (fun k=>q.moves.length-k) (fun k=>[(5,.i k),(2,.ptr 0 0),(3,.ptr 1 0)]) (fun _=>[.live (h.row.map .lf),.live (q.row.map .lf)]) 0 ⟨a0k _,by simp⟩ CV CH ?_
 rintro k ⟨hk,hok,hnd⟩
 by_cases hlt:k<q.moves.length
 ·have h1:(k:Int)<((q.moves.map MoveR.row).length:Nat):=by omega
  obtain⟨m,hm⟩:=A2 hlt
  have hb:=A3 (R:=MoveR.row) hm
  have hsn:=Ad hm
  have hmf:=Tk (h:=h) hm
  by_cases hk0:Aa h m.set<0
  ·have hbad:¬moveIn h m:=fun⟨_,_,hh,_⟩=>by omega
   repeat' first|refine WY ?_|(apply p0u A8 (by kernel_rfl))|refine Zb5 ?_|refine Zc (Zb m) ?_|refine Zc (Gn h m.set hf) ?_|refine V ?_|refine W2 ?_ ?_<;>intro hc
   all_goals exact Dd rfl rfl (congrArg Value.bool (decide_eq_false (hmf (.inl hbad))).symm)
  ·obtain⟨s,hs⟩:=Iu hk0
   have hbs:=Ft (R:=SetR.row) hs
   have hin:=W0 hk0 hs
   have hid:=Qv (fun s:SetR=>s.name=m.set) h.sets
   repeat' first|refine WY ?_|(apply p0u A8 (by kernel_rfl))|refine Zb5 ?_|refine Zc (Zb m) ?_|refine Zc (Gn h m.set hf) ?_|refine V ?_|refine W2 ?_ ?_<;>intro hc
   all_goals first
    |exact Dd rfl rfl (congrArg Value.bool (decide_eq_false (hmf (.inl (fun hh=>by
     have h3:=hin.1 hh
     first|exact absurd h3.1 (by assumption)|(have:=h3.2;omega))))).symm)
    |skip
   have hmr:moveIn h m:=hin.2 ⟨by first|assumption|exact a1x (by assumption),by omega⟩
   refine p0c (fun j=>j<=k/\∀y∈q.moves.take j,y.set≠m.set) (fun j=>k-j) (fun j=>[(8,.i j),(5,.i k),(2,.ptr 0 0),(3,.ptr 1 0),(6,.ptr 2 0)]) (fun _=>[.live (h.row.map .lf),.live (q.row.map .lf),.live (m.row.map .lf)]) 0 ⟨a0k _,by simp⟩ CV CH ?_
   rintro j ⟨hj,hne⟩
   by_cases hjk:j<k
   ·have h2:(j:Int)<k:=by omega
    obtain⟨y,hy⟩:=A2 (l:=q.moves) (k:=j) (by omega)
    have hby:=A3 (R:=MoveR.row) hy
    have hsj:=Ad hy
    repeat' first|refine WY ?_|(apply p0u A8 (by kernel_rfl))|refine V ?_|refine W2 ?_ ?_<;>intro hc
    all_goals first
     |exact Next.go (j+1) ⟨by omega,by rw[hsj];intro z hz;rcases a0p.1 hz with hz|hz;exact hne z hz;obtain rfl:z=y:=(by simpa using hz);assumption⟩ (by omega) CV CH
     |exact Dd rfl rfl (congrArg Value.bool (decide_eq_false (hmf (.inr ⟨y,a0a (by rw[a1o hjk];exact hy),by assumption⟩))).symm)
   ·have h2:¬(j:Int)<k:=by omega
    obtain rfl:j=k:=by omega
    repeat' first|refine WX ?_|refine W2 ?_ ?_<;>intro hc
    exact Next.go (j+1) ⟨by omega,by rw[hsn];intro y hy;rcases a0p.1 hy with hy|hy;exact hok y hy;obtain rfl:y=m:=(by simpa using hy);exact hmr,by rw[hsn];exact(Ct _ _ _).2 ⟨hnd,fun⟨y,hy,he⟩=>hne y hy he⟩⟩ (by omega) CV CH
 ·have h1:¬(k:Int)<((q.moves.map MoveR.row).length:Nat):=by omega
  have hk2:q.moves.take k=q.moves:=a0g (by omega)
  rw[hk2]at hok hnd
  repeat' first|refine WX ?_|refine W2 ?_ ?_<;>intro hc
  exact Dd rfl rfl (congrArg Value.bool (decide_eq_true ⟨by assumption,by omega,by omega,by omega,by omega,hok,hnd⟩).symm)
end Go.Proofs.YtcaicpnepfjcmaaGreat
