/- Lemmas of the proof. -/
import Derived.Test.YtcaicpnepfjcmaaGreatMa
import Derived.Test.YtcaicpnepfjcmaaGreatChecked
set_option linter.all false
namespace Go.Proofs.YtcaicpnepfjcmaaGreat
open Go Go.Proofs
def a1w:= @Tryz.underlying3
def a2a:= @Tryz.underlying151
def a2p:= @Tryz.underlying70
def a3p:= @Tryz.underlying55
def a4c:= @Tryz.underlying114
def a4m:= @Tryz.underlying121
def a5h:= @Tryz.underlying123
def a5p:= @Tryz.underlying25
def a5y:= @Tryz.underlying186
def a6y:= @Tryz.underlying118
def a6z:= @Tryz.underlying145
def a7a:= @Tryz.underlying164
def a7b:= @Tryz.underlying192
def a7c:= @Tryz.underlying200
def a7f:= @Tryz.underlying29
def a7g:= @Tryz.underlying38
def a8a:= @Tryz.underlying138
def a8b:= @Tryz.underlying142
def a8c:= @Tryz.underlying175
def a8h:= @Tryz.underlying40
def a8i:= @Tryz.underlying76
def a9k:= @Tryz.underlying196
def a9l:= @Tryz.underlying198
def a9m:= @Tryz.underlying225
def a9n:= @Tryz.underlying227
def a9u:= @Tryz.underlying30
def b0m:= @Tryz.underlying9
def b3r:= @Tryz.underlying119
def b3s:= @Tryz.underlying244
instance :HasU Tryz.prog 2 (.int .i64):=⟨Tryz.underlying2⟩
instance :HasU Tryz.prog 3 (.int .i64):=⟨a1w⟩
instance :HasS Tryz.prog 3 1:=⟨by kernel_rfl⟩
instance :HasB Tryz.prog 3 8:=⟨by kernel_rfl⟩
instance :HasZ Tryz.prog 3 (.int .i64 0):=⟨by kernel_rfl⟩
instance :HasU Tryz.prog 4 (.bool):=⟨Tryz.underlying4⟩
instance :HasS Tryz.prog 4 1:=⟨by kernel_rfl⟩
instance :HasB Tryz.prog 4 1:=⟨by kernel_rfl⟩
instance :HasZ Tryz.prog 4 (.bool false):=⟨by kernel_rfl⟩
instance :HasU Tryz.prog 9 (.string):=⟨b0m⟩
instance :HasS Tryz.prog 9 1:=⟨by kernel_rfl⟩
instance :HasU Tryz.prog 22 (.slice 70):=⟨Tryz.underlying22⟩
instance :HasU Tryz.prog 23 (.slice 118):=⟨Tryz.underlying23⟩
instance :HasU Tryz.prog 25 (.struct (Al Tryz.prog 25)):=⟨by kernel_rfl⟩
instance :HasF Tryz.prog 25 0 0:=⟨_,_,1,a5p,rfl,by kernel_rfl,rfl,rfl⟩
instance :HasF Tryz.prog 25 1 1:=⟨_,_,1,a5p,rfl,by kernel_rfl,rfl,rfl⟩
instance :HasF Tryz.prog 25 2 2:=⟨_,_,1,a5p,rfl,by kernel_rfl,rfl,rfl⟩
instance :HasF Tryz.prog 25 3 3:=⟨_,_,1,a5p,rfl,by kernel_rfl,rfl,rfl⟩
instance :HasL Tryz.prog 25 [(0,1),(1,1),(2,1),(3,1)]:=⟨_,a5p,fun w=>by kernel_rfl⟩
instance :HasS Tryz.prog 25 4:=⟨by kernel_rfl⟩
instance :HasZ Tryz.prog 25 (.agg #[(.string ⟨#[]⟩),(.int .i64 0),(.slice none 0 0),(.slice none 0 0)]):=⟨by kernel_rfl⟩
instance :HasU Tryz.prog 26 (.slice 121):=⟨Tryz.underlying26⟩
instance :HasU Tryz.prog 27 (.slice 66):=⟨Tryz.underlying27⟩
instance :HasU Tryz.prog 29 (.struct (Al Tryz.prog 29)):=⟨by kernel_rfl⟩
instance :HasF Tryz.prog 29 0 0:=⟨_,_,1,a7f,rfl,by kernel_rfl,rfl,rfl⟩
instance :HasF Tryz.prog 29 1 1:=⟨_,_,1,a7f,rfl,by kernel_rfl,rfl,rfl⟩
instance :HasL Tryz.prog 29 [(0,1),(1,1)]:=⟨_,a7f,fun w=>by kernel_rfl⟩
instance :HasS Tryz.prog 29 2:=⟨by kernel_rfl⟩
instance :HasZ Tryz.prog 29 (.agg #[(.slice none 0 0),(.slice none 0 0)]):=⟨by kernel_rfl⟩
instance :HasU Tryz.prog 30 (.slice 3):=⟨a9u⟩
instance :HasS Tryz.prog 30 1:=⟨by kernel_rfl⟩
instance :HasB Tryz.prog 30 24:=⟨by kernel_rfl⟩
instance :HasZ Tryz.prog 30 (.slice none 0 0):=⟨by kernel_rfl⟩
instance :HasU Tryz.prog 33 (.slice 40):=⟨Tryz.underlying33⟩
instance :HasS Tryz.prog 33 1:=⟨by kernel_rfl⟩
instance :HasZ Tryz.prog 33 (.slice none 0 0):=⟨by kernel_rfl⟩
instance :HasU Tryz.prog 34 (.int .i64):=⟨Tryz.underlying34⟩
instance :HasS Tryz.prog 34 1:=⟨by kernel_rfl⟩
instance :HasZ Tryz.prog 34 (.int .i64 0):=⟨by kernel_rfl⟩
instance :HasU Tryz.prog 38 (.struct (Al Tryz.prog 38)):=⟨by kernel_rfl⟩
instance :HasF Tryz.prog 38 0 0:=⟨_,_,1,a7g,rfl,by kernel_rfl,rfl,rfl⟩
instance :HasF Tryz.prog 38 1 1:=⟨_,_,1,a7g,rfl,by kernel_rfl,rfl,rfl⟩
instance :HasL Tryz.prog 38 [(0,1),(1,1)]:=⟨_,a7g,fun w=>by kernel_rfl⟩
instance :HasS Tryz.prog 38 2:=⟨by kernel_rfl⟩
instance :HasZ Tryz.prog 38 (.agg #[(.int .i64 0),(.int .i64 0)]):=⟨by kernel_rfl⟩
instance :HasU Tryz.prog 40 (.struct (Al Tryz.prog 40)):=⟨by kernel_rfl⟩
instance :HasF Tryz.prog 40 2 2:=⟨_,_,2,a8h,rfl,by kernel_rfl,rfl,rfl⟩
instance :HasL Tryz.prog 40 [(0,1),(1,1),(2,2)]:=⟨_,a8h,fun w=>by kernel_rfl⟩
instance :HasS Tryz.prog 40 4:=⟨by kernel_rfl⟩
instance :HasB Tryz.prog 40 48:=⟨by kernel_rfl⟩
instance :HasZ Tryz.prog 40 (.agg #[(.string ⟨#[]⟩),(.string ⟨#[]⟩),(.int .i64 0),(.int .i64 0)]):=⟨by kernel_rfl⟩
instance :HasU Tryz.prog 55 (.struct (Al Tryz.prog 55)):=⟨by kernel_rfl⟩
instance :HasF Tryz.prog 55 0 0:=⟨_,_,1,a3p,rfl,by kernel_rfl,rfl,rfl⟩
instance :HasF Tryz.prog 55 1 1:=⟨_,_,1,a3p,rfl,by kernel_rfl,rfl,rfl⟩
instance :HasL Tryz.prog 55 [(0,1),(1,1)]:=⟨_,a3p,fun w=>by kernel_rfl⟩
instance :HasS Tryz.prog 55 2:=⟨by kernel_rfl⟩
instance :HasB Tryz.prog 55 16:=⟨by kernel_rfl⟩
instance :HasZ Tryz.prog 55 (.agg #[(.int .i64 0),(.int .i64 0)]):=⟨by kernel_rfl⟩
instance :HasU Tryz.prog 66 (.array 2 9):=⟨Tryz.underlying66⟩
instance :HasS Tryz.prog 66 2:=⟨by kernel_rfl⟩
instance :HasB Tryz.prog 66 32:=⟨by kernel_rfl⟩
instance :HasZ Tryz.prog 66 (.agg #[(.string ⟨#[]⟩),(.string ⟨#[]⟩)]):=⟨by kernel_rfl⟩
instance :HasU Tryz.prog 67 (.slice 114):=⟨Tryz.underlying67⟩
instance :HasU Tryz.prog 68 (.slice 175):=⟨Tryz.underlying68⟩
instance :HasU Tryz.prog 70 (.struct (Al Tryz.prog 70)):=⟨by kernel_rfl⟩
instance :HasF Tryz.prog 70 0 0:=⟨_,_,1,a2p,rfl,by kernel_rfl,rfl,rfl⟩
instance :HasF Tryz.prog 70 1 1:=⟨_,_,1,a2p,rfl,by kernel_rfl,rfl,rfl⟩
instance :HasF Tryz.prog 70 2 2:=⟨_,_,1,a2p,rfl,by kernel_rfl,rfl,rfl⟩
instance :HasF Tryz.prog 70 3 3:=⟨_,_,1,a2p,rfl,by kernel_rfl,rfl,rfl⟩
instance :HasF Tryz.prog 70 4 4:=⟨_,_,1,a2p,rfl,by kernel_rfl,rfl,rfl⟩
instance :HasF Tryz.prog 70 5 5:=⟨_,_,1,a2p,rfl,by kernel_rfl,rfl,rfl⟩
instance :HasF Tryz.prog 70 6 6:=⟨_,_,1,a2p,rfl,by kernel_rfl,rfl,rfl⟩
instance :HasF Tryz.prog 70 7 7:=⟨_,_,1,a2p,rfl,by kernel_rfl,rfl,rfl⟩
instance :HasF Tryz.prog 70 8 8:=⟨_,_,1,a2p,rfl,by kernel_rfl,rfl,rfl⟩
instance :HasF Tryz.prog 70 9 9:=⟨_,_,1,a2p,rfl,by kernel_rfl,rfl,rfl⟩
instance :HasF Tryz.prog 70 10 10:=⟨_,_,1,a2p,rfl,by kernel_rfl,rfl,rfl⟩
instance :HasF Tryz.prog 70 11 11:=⟨_,_,1,a2p,rfl,by kernel_rfl,rfl,rfl⟩
instance :HasF Tryz.prog 70 12 12:=⟨_,_,1,a2p,rfl,by kernel_rfl,rfl,rfl⟩
instance :HasL Tryz.prog 70 [(0,1),(1,1),(2,1),(3,1),(4,1),(5,1),(6,1),(7,1),(8,1),(9,1),(10,1),(11,1),(12,1)]:=⟨_,a2p,fun w=>by kernel_rfl⟩
instance :HasS Tryz.prog 70 13:=⟨by kernel_rfl⟩
instance :HasB Tryz.prog 70 160:=⟨by kernel_rfl⟩
instance :HasZ Tryz.prog 70 (.agg #[(.string ⟨#[]⟩),(.int .i64 0),(.int .i64 0),(.int .i64 0),(.int .i64 0),(.slice none 0 0),(.int .i64 0),(.int .i64 0),(.int .i64 0),(.int .i64 0),(.int .i64 0),(.slice none 0 0),(.slice none 0 0)]):=⟨by kernel_rfl⟩
instance :HasU Tryz.prog 71 (.array 2 70):=⟨Tryz.underlying71⟩
instance :HasU Tryz.prog 73 (.slice 192):=⟨Tryz.underlying73⟩
instance :HasS Tryz.prog 73 1:=⟨by kernel_rfl⟩
instance :HasZ Tryz.prog 73 (.slice none 0 0):=⟨by kernel_rfl⟩
instance :HasU Tryz.prog 74 (.array 2 73):=⟨Tryz.underlying74⟩
instance :HasU Tryz.prog 76 (.struct (Al Tryz.prog 76)):=⟨by kernel_rfl⟩
instance :HasF Tryz.prog 76 0 0:=⟨_,_,2,a8i,rfl,by kernel_rfl,rfl,rfl⟩
instance :HasF Tryz.prog 76 1 2:=⟨_,_,26,a8i,rfl,by kernel_rfl,rfl,rfl⟩
instance :HasF Tryz.prog 76 2 28:=⟨_,_,2,a8i,rfl,by kernel_rfl,rfl,rfl⟩
instance :HasL Tryz.prog 76 [(0,2),(2,26),(28,2)]:=⟨_,a8i,fun w=>by kernel_rfl⟩
instance :HasS Tryz.prog 76 30:=⟨by kernel_rfl⟩
instance :HasZ Tryz.prog 76 (.agg #[(.string ⟨#[]⟩),(.string ⟨#[]⟩),(.string ⟨#[]⟩),(.int .i64 0),(.int .i64 0),(.int .i64 0),(.int .i64 0),(.slice none 0 0),(.int .i64 0),(.int .i64 0),(.int .i64 0),(.int .i64 0),(.int .i64 0),(.slice none 0 0),(.slice none 0 0),(.string ⟨#[]⟩),(.int .i64 0),(.int .i64 0),(.int .i64 0),(.int .i64 0),(.slice none 0 0),(.int .i64 0),(.int .i64 0),(.int .i64 0),(.int .i64 0),(.int .i64 0),(.slice none 0 0),(.slice none 0 0),(.slice none 0 0),(.slice none 0 0)]):=⟨by kernel_rfl⟩
instance :HasU Tryz.prog 88 (.slice 90):=⟨Tryz.underlying88⟩
instance :HasU Tryz.prog 90 (.array 2 3):=⟨Tryz.underlying90⟩
instance :HasS Tryz.prog 90 2:=⟨by kernel_rfl⟩
instance :HasB Tryz.prog 90 16:=⟨by kernel_rfl⟩
instance :HasZ Tryz.prog 90 (.agg #[(.int .i64 0),(.int .i64 0)]):=⟨by kernel_rfl⟩
instance :HasU Tryz.prog 97 (.slice 101):=⟨Tryz.underlying97⟩
instance :HasL Tryz.prog 101 [(0,1),(1,1)]:=⟨_,Tryz.underlying101,fun w=>by kernel_rfl⟩
instance :HasS Tryz.prog 101 2:=⟨by kernel_rfl⟩
instance :HasB Tryz.prog 101 24:=⟨by kernel_rfl⟩
instance :HasZ Tryz.prog 101 (.agg #[(.string ⟨#[]⟩),(.int .i64 0)]):=⟨by kernel_rfl⟩
instance :HasU Tryz.prog 102 (.slice 160):=⟨Tryz.underlying102⟩
instance :HasU Tryz.prog 114 (.struct (Al Tryz.prog 114)):=⟨by kernel_rfl⟩
instance :HasF Tryz.prog 114 0 0:=⟨_,_,1,a4c,rfl,by kernel_rfl,rfl,rfl⟩
instance :HasF Tryz.prog 114 1 1:=⟨_,_,1,a4c,rfl,by kernel_rfl,rfl,rfl⟩
instance :HasF Tryz.prog 114 2 2:=⟨_,_,1,a4c,rfl,by kernel_rfl,rfl,rfl⟩
instance :HasF Tryz.prog 114 3 3:=⟨_,_,1,a4c,rfl,by kernel_rfl,rfl,rfl⟩
instance :HasF Tryz.prog 114 4 4:=⟨_,_,1,a4c,rfl,by kernel_rfl,rfl,rfl⟩
instance :HasF Tryz.prog 114 5 5:=⟨_,_,1,a4c,rfl,by kernel_rfl,rfl,rfl⟩
instance :HasF Tryz.prog 114 6 6:=⟨_,_,1,a4c,rfl,by kernel_rfl,rfl,rfl⟩
instance :HasL Tryz.prog 114 [(0,1),(1,1),(2,1),(3,1),(4,1),(5,1),(6,1)]:=⟨_,a4c,fun w=>by kernel_rfl⟩
instance :HasS Tryz.prog 114 7:=⟨by kernel_rfl⟩
instance :HasZ Tryz.prog 114 (.agg #[(.string ⟨#[]⟩),(.int .i64 0),(.int .i64 0),(.int .i64 0),(.int .i64 0),(.int .i64 0),(.int .i64 0)]):=⟨by kernel_rfl⟩
instance :HasU Tryz.prog 118 (.struct (Al Tryz.prog 118)):=⟨by kernel_rfl⟩
instance :HasF Tryz.prog 118 0 0:=⟨_,_,1,a6y,rfl,by kernel_rfl,rfl,rfl⟩
instance :HasF Tryz.prog 118 1 1:=⟨_,_,1,a6y,rfl,by kernel_rfl,rfl,rfl⟩
instance :HasF Tryz.prog 118 2 2:=⟨_,_,1,a6y,rfl,by kernel_rfl,rfl,rfl⟩
instance :HasF Tryz.prog 118 3 3:=⟨_,_,1,a6y,rfl,by kernel_rfl,rfl,rfl⟩
instance :HasS Tryz.prog 118 4:=⟨by kernel_rfl⟩
instance :HasZ Tryz.prog 118 (.agg #[(.string ⟨#[]⟩),(.int .i64 0),(.int .i64 0),(.int .i64 0)]):=⟨by kernel_rfl⟩
instance :HasU Tryz.prog 119 (.slice 123):=⟨b3r⟩
instance :HasU Tryz.prog 121 (.struct (Al Tryz.prog 121)):=⟨by kernel_rfl⟩
instance :HasF Tryz.prog 121 0 0:=⟨_,_,1,a4m,rfl,by kernel_rfl,rfl,rfl⟩
instance :HasF Tryz.prog 121 1 1:=⟨_,_,1,a4m,rfl,by kernel_rfl,rfl,rfl⟩
instance :HasF Tryz.prog 121 2 2:=⟨_,_,1,a4m,rfl,by kernel_rfl,rfl,rfl⟩
instance :HasF Tryz.prog 121 3 3:=⟨_,_,1,a4m,rfl,by kernel_rfl,rfl,rfl⟩
instance :HasF Tryz.prog 121 4 4:=⟨_,_,1,a4m,rfl,by kernel_rfl,rfl,rfl⟩
instance :HasF Tryz.prog 121 5 5:=⟨_,_,1,a4m,rfl,by kernel_rfl,rfl,rfl⟩
instance :HasF Tryz.prog 121 6 6:=⟨_,_,1,a4m,rfl,by kernel_rfl,rfl,rfl⟩
instance :HasS Tryz.prog 121 7:=⟨by kernel_rfl⟩
instance :HasZ Tryz.prog 121 (.agg #[(.string ⟨#[]⟩),(.string ⟨#[]⟩),(.int .i64 0),(.int .i64 0),(.slice none 0 0),(.int .i64 0),(.int .i64 0)]):=⟨by kernel_rfl⟩
instance :HasU Tryz.prog 123 (.struct (Al Tryz.prog 123)):=⟨by kernel_rfl⟩
instance :HasF Tryz.prog 123 0 0:=⟨_,_,1,a5h,rfl,by kernel_rfl,rfl,rfl⟩
instance :HasF Tryz.prog 123 1 1:=⟨_,_,1,a5h,rfl,by kernel_rfl,rfl,rfl⟩
instance :HasF Tryz.prog 123 2 2:=⟨_,_,1,a5h,rfl,by kernel_rfl,rfl,rfl⟩
instance :HasF Tryz.prog 123 3 3:=⟨_,_,1,a5h,rfl,by kernel_rfl,rfl,rfl⟩
instance :HasF Tryz.prog 123 4 4:=⟨_,_,1,a5h,rfl,by kernel_rfl,rfl,rfl⟩
instance :HasL Tryz.prog 123 [(0,1),(1,1),(2,1),(3,1),(4,1)]:=⟨_,a5h,fun w=>by kernel_rfl⟩
instance :HasS Tryz.prog 123 5:=⟨by kernel_rfl⟩
instance :HasZ Tryz.prog 123 (.agg #[(.string ⟨#[]⟩),(.int .i64 0),(.int .i64 0),(.int .i64 0),(.int .i64 0)]):=⟨by kernel_rfl⟩
instance :HasU Tryz.prog 136 (.slice 30):=⟨Tryz.underlying136⟩
instance :HasU Tryz.prog 138 (.struct (Al Tryz.prog 138)):=⟨by kernel_rfl⟩
instance :HasF Tryz.prog 138 0 0:=⟨_,_,1,a8a,rfl,by kernel_rfl,rfl,rfl⟩
instance :HasF Tryz.prog 138 1 1:=⟨_,_,1,a8a,rfl,by kernel_rfl,rfl,rfl⟩
instance :HasF Tryz.prog 138 2 2:=⟨_,_,1,a8a,rfl,by kernel_rfl,rfl,rfl⟩
instance :HasL Tryz.prog 138 [(0,1),(1,1),(2,1)]:=⟨_,a8a,fun w=>by kernel_rfl⟩
instance :HasS Tryz.prog 138 3:=⟨by kernel_rfl⟩
instance :HasZ Tryz.prog 138 (.agg #[(.slice none 0 0),(.slice none 0 0),(.slice none 0 0)]):=⟨by kernel_rfl⟩
instance :HasU Tryz.prog 142 (.int .u64):=⟨a8b⟩
instance :HasS Tryz.prog 142 1:=⟨by kernel_rfl⟩
instance :HasU Tryz.prog 145 (.struct (Al Tryz.prog 145)):=⟨by kernel_rfl⟩
instance :HasF Tryz.prog 145 0 0:=⟨_,_,1,a6z,rfl,by kernel_rfl,rfl,rfl⟩
instance :HasF Tryz.prog 145 1 1:=⟨_,_,1,a6z,rfl,by kernel_rfl,rfl,rfl⟩
instance :HasL Tryz.prog 145 [(0,1),(1,1)]:=⟨_,a6z,fun w=>by kernel_rfl⟩
instance :HasS Tryz.prog 145 2:=⟨by kernel_rfl⟩
instance :HasZ Tryz.prog 145 (.agg #[(.int .u64 0),(.int .u64 0)]):=⟨by kernel_rfl⟩
instance :HasU Tryz.prog 151 (.struct (Al Tryz.prog 151)):=⟨by kernel_rfl⟩
instance :HasF Tryz.prog 151 0 0:=⟨_,_,1,a2a,rfl,by kernel_rfl,rfl,rfl⟩
instance :HasF Tryz.prog 151 1 1:=⟨_,_,1,a2a,rfl,by kernel_rfl,rfl,rfl⟩
instance :HasF Tryz.prog 151 2 2:=⟨_,_,1,a2a,rfl,by kernel_rfl,rfl,rfl⟩
instance :HasF Tryz.prog 151 3 3:=⟨_,_,1,a2a,rfl,by kernel_rfl,rfl,rfl⟩
instance :HasF Tryz.prog 151 4 4:=⟨_,_,1,a2a,rfl,by kernel_rfl,rfl,rfl⟩
instance :HasL Tryz.prog 151 [(0,1),(1,1),(2,1),(3,1),(4,1)]:=⟨_,a2a,fun w=>by kernel_rfl⟩
instance :HasS Tryz.prog 151 5:=⟨by kernel_rfl⟩
instance :HasZ Tryz.prog 151 (.agg #[(.int .i64 0),(.int .i64 0),(.int .i64 0),(.int .i64 0),(.int .i64 0)]):=⟨by kernel_rfl⟩
instance :HasU Tryz.prog 164 (.struct (Al Tryz.prog 164)):=⟨by kernel_rfl⟩
instance :HasF Tryz.prog 164 0 0:=⟨_,_,1,a7a,rfl,by kernel_rfl,rfl,rfl⟩
instance :HasF Tryz.prog 164 1 1:=⟨_,_,1,a7a,rfl,by kernel_rfl,rfl,rfl⟩
instance :HasL Tryz.prog 164 [(0,1),(1,1)]:=⟨_,a7a,fun w=>by kernel_rfl⟩
instance :HasS Tryz.prog 164 2:=⟨by kernel_rfl⟩
instance :HasZ Tryz.prog 164 (.agg #[(.int .u64 0),(.int .u64 0)]):=⟨by kernel_rfl⟩
instance :HasU Tryz.prog 175 (.struct (Al Tryz.prog 175)):=⟨by kernel_rfl⟩
instance :HasF Tryz.prog 175 0 0:=⟨_,_,1,a8c,rfl,by kernel_rfl,rfl,rfl⟩
instance :HasF Tryz.prog 175 1 1:=⟨_,_,1,a8c,rfl,by kernel_rfl,rfl,rfl⟩
instance :HasF Tryz.prog 175 2 2:=⟨_,_,1,a8c,rfl,by kernel_rfl,rfl,rfl⟩
instance :HasS Tryz.prog 175 3:=⟨by kernel_rfl⟩
instance :HasZ Tryz.prog 175 (.agg #[(.string ⟨#[]⟩),(.int .i64 0),(.int .i64 0)]):=⟨by kernel_rfl⟩
instance :HasU Tryz.prog 186 (.struct (Al Tryz.prog 186)):=⟨by kernel_rfl⟩
instance :HasF Tryz.prog 186 0 0:=⟨_,_,1,a5y,rfl,by kernel_rfl,rfl,rfl⟩
instance :HasF Tryz.prog 186 1 1:=⟨_,_,1,a5y,rfl,by kernel_rfl,rfl,rfl⟩
instance :HasF Tryz.prog 186 2 2:=⟨_,_,1,a5y,rfl,by kernel_rfl,rfl,rfl⟩
instance :HasF Tryz.prog 186 3 3:=⟨_,_,1,a5y,rfl,by kernel_rfl,rfl,rfl⟩
instance :HasF Tryz.prog 186 4 4:=⟨_,_,1,a5y,rfl,by kernel_rfl,rfl,rfl⟩
instance :HasL Tryz.prog 186 [(0,1),(1,1),(2,1),(3,1),(4,1)]:=⟨_,a5y,fun w=>by kernel_rfl⟩
instance :HasS Tryz.prog 186 5:=⟨by kernel_rfl⟩
instance :HasZ Tryz.prog 186 (.agg #[(.int .i64 0),(.int .i64 0),(.int .i64 0),(.int .i64 0),(.int .i64 0)]):=⟨by kernel_rfl⟩
instance :HasU Tryz.prog 192 (.struct (Al Tryz.prog 192)):=⟨by kernel_rfl⟩
instance :HasF Tryz.prog 192 0 0:=⟨_,_,2,a7b,rfl,by kernel_rfl,rfl,rfl⟩
instance :HasF Tryz.prog 192 1 2:=⟨_,_,2,a7b,rfl,by kernel_rfl,rfl,rfl⟩
instance :HasF Tryz.prog 192 2 4:=⟨_,_,2,a7b,rfl,by kernel_rfl,rfl,rfl⟩
instance :HasF Tryz.prog 192 3 6:=⟨_,_,2,a7b,rfl,by kernel_rfl,rfl,rfl⟩
instance :HasL Tryz.prog 192 [(0,2),(2,2),(4,2),(6,2)]:=⟨_,a7b,fun w=>by kernel_rfl⟩
instance :HasS Tryz.prog 192 8:=⟨by kernel_rfl⟩
instance :HasB Tryz.prog 192 64:=⟨by kernel_rfl⟩
instance :HasZ Tryz.prog 192 (.agg #[(.int .i64 0),(.int .i64 0),(.int .i64 0),(.int .i64 0),(.int .i64 0),(.int .i64 0),(.int .i64 0),(.int .i64 0)]):=⟨by kernel_rfl⟩
instance :HasU Tryz.prog 194 (.slice 321):=⟨Tryz.underlying194⟩
instance :HasU Tryz.prog 196 (.struct (Al Tryz.prog 196)):=⟨by kernel_rfl⟩
instance :HasF Tryz.prog 196 0 0:=⟨_,_,1,a9k,rfl,by kernel_rfl,rfl,rfl⟩
instance :HasF Tryz.prog 196 1 1:=⟨_,_,1,a9k,rfl,by kernel_rfl,rfl,rfl⟩
instance :HasL Tryz.prog 196 [(0,1),(1,1)]:=⟨_,a9k,fun w=>by kernel_rfl⟩
instance :HasS Tryz.prog 196 2:=⟨by kernel_rfl⟩
instance :HasZ Tryz.prog 196 (.agg #[(.bool false),(.slice none 0 0)]):=⟨by kernel_rfl⟩
instance :HasU Tryz.prog 198 (.struct (Al Tryz.prog 198)):=⟨by kernel_rfl⟩
instance :HasF Tryz.prog 198 0 0:=⟨_,_,2,a9l,rfl,by kernel_rfl,rfl,rfl⟩
instance :HasF Tryz.prog 198 1 2:=⟨_,_,2,a9l,rfl,by kernel_rfl,rfl,rfl⟩
instance :HasL Tryz.prog 198 [(0,2),(2,2)]:=⟨_,a9l,fun w=>by kernel_rfl⟩
instance :HasS Tryz.prog 198 4:=⟨by kernel_rfl⟩
instance :HasZ Tryz.prog 198 (.agg #[(.bool false),(.slice none 0 0),(.bool false),(.slice none 0 0)]):=⟨by kernel_rfl⟩
instance :HasU Tryz.prog 200 (.struct (Al Tryz.prog 200)):=⟨by kernel_rfl⟩
instance :HasF Tryz.prog 200 0 0:=⟨_,_,4,a7c,rfl,by kernel_rfl,rfl,rfl⟩
instance :HasF Tryz.prog 200 1 4:=⟨_,_,4,a7c,rfl,by kernel_rfl,rfl,rfl⟩
instance :HasF Tryz.prog 200 2 8:=⟨_,_,4,a7c,rfl,by kernel_rfl,rfl,rfl⟩
instance :HasF Tryz.prog 200 3 12:=⟨_,_,4,a7c,rfl,by kernel_rfl,rfl,rfl⟩
instance :HasL Tryz.prog 200 [(0,4),(4,4),(8,4),(12,4)]:=⟨_,a7c,fun w=>by kernel_rfl⟩
instance :HasS Tryz.prog 200 16:=⟨by kernel_rfl⟩
instance :HasZ Tryz.prog 200 (.agg #[(.bool false),(.slice none 0 0),(.bool false),(.slice none 0 0),(.bool false),(.slice none 0 0),(.bool false),(.slice none 0 0),(.bool false),(.slice none 0 0),(.bool false),(.slice none 0 0),(.bool false),(.slice none 0 0),(.bool false),(.slice none 0 0)]):=⟨by kernel_rfl⟩
instance :HasU Tryz.prog 225 (.struct (Al Tryz.prog 225)):=⟨by kernel_rfl⟩
instance :HasF Tryz.prog 225 0 0:=⟨_,_,1,a9m,rfl,by kernel_rfl,rfl,rfl⟩
instance :HasF Tryz.prog 225 1 1:=⟨_,_,1,a9m,rfl,by kernel_rfl,rfl,rfl⟩
instance :HasL Tryz.prog 225 [(0,1),(1,1)]:=⟨_,a9m,fun w=>by kernel_rfl⟩
instance :HasS Tryz.prog 225 2:=⟨by kernel_rfl⟩
instance :HasZ Tryz.prog 225 (.agg #[(.bool false),(.slice none 0 0)]):=⟨by kernel_rfl⟩
instance :HasU Tryz.prog 227 (.struct (Al Tryz.prog 227)):=⟨by kernel_rfl⟩
instance :HasF Tryz.prog 227 0 0:=⟨_,_,2,a9n,rfl,by kernel_rfl,rfl,rfl⟩
instance :HasF Tryz.prog 227 1 2:=⟨_,_,2,a9n,rfl,by kernel_rfl,rfl,rfl⟩
instance :HasL Tryz.prog 227 [(0,2),(2,2)]:=⟨_,a9n,fun w=>by kernel_rfl⟩
instance :HasS Tryz.prog 227 4:=⟨by kernel_rfl⟩
instance :HasZ Tryz.prog 227 (.agg #[(.bool false),(.slice none 0 0),(.bool false),(.slice none 0 0)]):=⟨by kernel_rfl⟩
instance :HasF Tryz.prog 244 0 0:=⟨_,_,1,b3s,rfl,by kernel_rfl,rfl,rfl⟩
instance :HasL Tryz.prog 244 [(0,1)]:=⟨_,b3s,fun w=>by kernel_rfl⟩
instance :HasZ Tryz.prog 244 (.agg #[(.int .i64 0)]):=⟨by kernel_rfl⟩
instance :HasU Tryz.prog 248 (.func #[55,34] #[55] false):=⟨Tryz.underlying248⟩
instance :HasS Tryz.prog 248 1:=⟨by kernel_rfl⟩
instance :HasZ Tryz.prog 248 .nilFunc:=⟨by kernel_rfl⟩
instance :HasU Tryz.prog 261 (.int .u64):=⟨Tryz.underlying261⟩
instance :HasU Tryz.prog 286 (.slice 55):=⟨Tryz.underlying286⟩
instance :HasU Tryz.prog 297 (.slice 4):=⟨Tryz.underlying297⟩
instance :HasU Tryz.prog 321 (.int .u32):=⟨Tryz.underlying321⟩
instance :HasS Tryz.prog 321 1:=⟨by kernel_rfl⟩
instance :HasB Tryz.prog 321 4:=⟨by kernel_rfl⟩
instance :HasZ Tryz.prog 321 (.int .u32 0):=⟨by kernel_rfl⟩
instance :HasU Tryz.prog 333 (.map 9 334):=⟨Tryz.underlying333⟩
instance :HasL Tryz.prog 334 []:=⟨_,Tryz.underlying334,fun w=>by kernel_rfl⟩
instance :HasS Tryz.prog 334 0:=⟨by kernel_rfl⟩
instance :HasZ Tryz.prog 334 (.agg #[]):=⟨by kernel_rfl⟩
instance :HasU Tryz.prog 346 (.map 66 334):=⟨Tryz.underlying346⟩
instance :HasU Tryz.prog 349 (.slice 73):=⟨Tryz.underlying349⟩
abbrev Fz(f:FuncId)(a:List AV)(r:AV):Prop:=Fn0 Tryz.prog f a r
end Go.Proofs.YtcaicpnepfjcmaaGreat
