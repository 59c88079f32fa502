/- Calls that TopNames makes, each with like arguments and like memory, and what they come to (no condition). -/
import Derived.Test.YtdkeobkooiaacaaGreatDoorTab
import Derived.Test.YtdkeobkooiaacaaGreatDoorPiece2
open Go Go.Proofs.YtdkeobkooiaacaaGreatDoor.Ev
namespace Go.Proofs.YtdkeobkooiaacaaGreatDoor.Tab
set_option maxRecDepth 100000
def m109 : Memo := ⟨[(.int .u32 (.ofNat 2677569099)), i8], [], (.int .u32 (.ofNat 3631034097)), [], 0⟩
theorem k109 : MemoOk Tryz.prog 450 m109 := piece (mm := 0) (l := []) memos_nil (by kernel_rfl)
def m110 : Memo := ⟨[(.int .u32 (.ofNat 3631034098)), i8], [], (.int .u32 (.ofNat 311259820)), [], 0⟩
theorem k110 : MemoOk Tryz.prog 450 m110 := piece (mm := 0) (l := []) memos_nil (by kernel_rfl)
def m111 : Memo := ⟨[(.int .u32 (.ofNat 311259823)), i8], [], (.int .u32 (.ofNat 4232709360)), [], 0⟩
theorem k111 : MemoOk Tryz.prog 450 m111 := piece (mm := 0) (l := []) memos_nil (by kernel_rfl)
def m112 : Memo := ⟨[(.int .u32 (.ofNat 4232709360)), i8], [], (.int .u32 (.ofNat 4086441329)), [], 0⟩
theorem k112 : MemoOk Tryz.prog 450 m112 := piece (mm := 0) (l := []) memos_nil (by kernel_rfl)
def m113 : Memo := ⟨[(.int .u32 (.ofNat 4086441330)), i8], [], (.int .u32 (.ofNat 2421208799)), [], 0⟩
theorem k113 : MemoOk Tryz.prog 450 m113 := piece (mm := 0) (l := []) memos_nil (by kernel_rfl)
def m114 : Memo := ⟨[(.int .u32 (.ofNat 2421208798)), i8], [], (.int .u32 (.ofNat 2134576698)), [], 0⟩
theorem k114 : MemoOk Tryz.prog 450 m114 := piece (mm := 0) (l := []) memos_nil (by kernel_rfl)
def m115 : Memo := ⟨[(.int .u32 (.ofNat 2134576698)), i8], [], (.int .u32 (.ofNat 1535007367)), [], 0⟩
theorem k115 : MemoOk Tryz.prog 450 m115 := piece (mm := 0) (l := []) memos_nil (by kernel_rfl)
def m116 : Memo := ⟨[(.int .u32 (.ofNat 1535007366)), i8], [], (.int .u32 (.ofNat 2752291530)), [], 0⟩
theorem k116 : MemoOk Tryz.prog 450 m116 := piece (mm := 0) (l := []) memos_nil (by kernel_rfl)
def m117 : Memo := ⟨[(.int .u32 (.ofNat 2752291535)), i8], [], (.int .u32 (.ofNat 2637829698)), [], 0⟩
theorem k117 : MemoOk Tryz.prog 450 m117 := piece (mm := 0) (l := []) memos_nil (by kernel_rfl)
def m118 : Memo := ⟨[(.int .u32 (.ofNat 2637829699)), i8], [], (.int .u32 (.ofNat 1387713630)), [], 0⟩
theorem k118 : MemoOk Tryz.prog 450 m118 := piece (mm := 0) (l := []) memos_nil (by kernel_rfl)
def m119 : Memo := ⟨[(.int .u32 (.ofNat 1387713628)), i8], [], (.int .u32 (.ofNat 473211863)), [], 0⟩
theorem k119 : MemoOk Tryz.prog 450 m119 := piece (mm := 0) (l := []) memos_nil (by kernel_rfl)
def m120 : Memo := ⟨[(.int .u32 (.ofNat 473211863)), i8], [], (.int .u32 (.ofNat 117813731)), [], 0⟩
theorem k120 : MemoOk Tryz.prog 450 m120 := piece (mm := 0) (l := []) memos_nil (by kernel_rfl)
def m121 : Memo := ⟨[(.int .u32 (.ofNat 117813731)), i8], [], (.int .u32 (.ofNat 4033306207)), [], 0⟩
theorem k121 : MemoOk Tryz.prog 450 m121 := piece (mm := 0) (l := []) memos_nil (by kernel_rfl)
def m122 : Memo := ⟨[(.int .u32 (.ofNat 0)), (L p1 0 21 1)], [(.row [u2, u19, u5, u2, u1, u4, u2, u3, u0, u3, u3, u0, u3, u1, u0, u1, u5, u1, u2, u0, u0] 5 1 true false 0 none)], (.int .u32 (.ofNat 261661088)), [], 0⟩
theorem k122 : MemoOk Tryz.prog 306 m122 := piece (mm := 2907354897182427562197295231552018137414565442749272241125960796722557152453591693304764202855054262243050086425064711734138406514458624) (l := [(450, m101), (450, m102), (450, m103), (450, m104), (450, m105), (450, m106), (450, m107), (450, m108), (450, m109), (450, m110), (450, m111), (450, m112), (450, m113), (450, m114), (450, m115), (450, m116), (450, m117), (450, m118), (450, m119), (450, m120), (450, m121)]) (memos_cons k101 (memos_cons k102 (memos_cons k103 (memos_cons k104 (memos_cons k105 (memos_cons k106 (memos_cons k107 (memos_cons k108 (memos_cons k109 (memos_cons k110 (memos_cons k111 (memos_cons k112 (memos_cons k113 (memos_cons k114 (memos_cons k115 (memos_cons k116 (memos_cons k117 (memos_cons k118 (memos_cons k119 (memos_cons k120 (memos_cons k121 memos_nil))))))))))))))))))))) (by kernel_rfl)
def m123 : Memo := ⟨[(A [i2, (L p1 0 19 1)])], [(.row [u5, u2, u1, u4, u2, u3, u0, u3, u3, u0, u3, u1, u0, u1, u5, u1, u2, u0, u0] 5 1 true false 0 none)], (L p2 0 25 1), [(p2, some (.row [u2, u19, u5, u2, u1, u4, u2, u3, u0, u3, u3, u0, u3, u1, u0, u1, u5, u1, u2, u0, u0, u160, u161, u152, u15] 5 1 true false 0 none))], 1⟩
theorem k123 : MemoOk Tryz.prog 84 m123 := piece (mm := 130370302485407109521180524058200202307293977194619920040712988758680403184853549195737432064) (l := [(306, m122)]) (memos_cons k122 memos_nil) (by kernel_rfl)
def m124 : Memo := ⟨[(.int .u32 (.ofNat 4294967292)), i8], [], (.int .u32 (.ofNat 3201458010)), [], 0⟩
theorem k124 : MemoOk Tryz.prog 450 m124 := piece (mm := 0) (l := []) memos_nil (by kernel_rfl)
def m125 : Memo := ⟨[(.int .u32 (.ofNat 3201458015)), i8], [], (.int .u32 (.ofNat 260584616)), [], 0⟩
theorem k125 : MemoOk Tryz.prog 450 m125 := piece (mm := 0) (l := []) memos_nil (by kernel_rfl)
def m126 : Memo := ⟨[(.int .u32 (.ofNat 260584618)), i8], [], (.int .u32 (.ofNat 3383104938)), [], 0⟩
theorem k126 : MemoOk Tryz.prog 450 m126 := piece (mm := 0) (l := []) memos_nil (by kernel_rfl)
def m127 : Memo := ⟨[(.int .u32 (.ofNat 3383104938)), i8], [], (.int .u32 (.ofNat 3378527115)), [], 0⟩
theorem k127 : MemoOk Tryz.prog 450 m127 := piece (mm := 0) (l := []) memos_nil (by kernel_rfl)
def m128 : Memo := ⟨[(.int .u32 (.ofNat 3378527114)), i8], [], (.int .u32 (.ofNat 3923604347)), [], 0⟩
theorem k128 : MemoOk Tryz.prog 450 m128 := piece (mm := 0) (l := []) memos_nil (by kernel_rfl)
def m129 : Memo := ⟨[(.int .u32 (.ofNat 3923604347)), i8], [], (.int .u32 (.ofNat 3908575813)), [], 0⟩
theorem k129 : MemoOk Tryz.prog 450 m129 := piece (mm := 0) (l := []) memos_nil (by kernel_rfl)
def m130 : Memo := ⟨[(.int .u32 (.ofNat 3908575813)), i8], [], (.int .u32 (.ofNat 1952641410)), [], 0⟩
theorem k130 : MemoOk Tryz.prog 450 m130 := piece (mm := 0) (l := []) memos_nil (by kernel_rfl)
def m131 : Memo := ⟨[(.int .u32 (.ofNat 0)), (L p1 0 7 1)], [(.row [u3, u5, u2, u0, u1, u0, u0] 5 1 true false 0 none)], (.int .u32 (.ofNat 2342325885)), [], 0⟩
theorem k131 : MemoOk Tryz.prog 306 m131 := piece (mm := 2907354897182427562197295231552018137414565442749272241125960796722557152453591693304764202855054262243050086425064711734138406514458624) (l := [(450, m124), (450, m125), (450, m126), (450, m127), (450, m128), (450, m129), (450, m130)]) (memos_cons k124 (memos_cons k125 (memos_cons k126 (memos_cons k127 (memos_cons k128 (memos_cons k129 (memos_cons k130 memos_nil))))))) (by kernel_rfl)
def m132 : Memo := ⟨[(A [i3, (L p1 0 5 1)])], [(.row [u2, u0, u1, u0, u0] 5 1 true false 0 none)], (L p2 0 11 1), [(p2, some (.row [u3, u5, u2, u0, u1, u0, u0, u125, u14, u157, u139] 5 1 true false 0 none))], 1⟩
theorem k132 : MemoOk Tryz.prog 84 m132 := piece (mm := 130370302485407109521180524058200202307293977194619920040712988758680403184853549195737432064) (l := [(306, m131)]) (memos_cons k131 memos_nil) (by kernel_rfl)
def m133 : Memo := ⟨[(.int .u32 (.ofNat 4294967291)), i8], [], (.int .u32 (.ofNat 1779973041)), [], 0⟩
theorem k133 : MemoOk Tryz.prog 450 m133 := piece (mm := 0) (l := []) memos_nil (by kernel_rfl)
def m134 : Memo := ⟨[(.int .u32 (.ofNat 1779973064)), i8], [], (.int .u32 (.ofNat 1228826160)), [], 0⟩
theorem k134 : MemoOk Tryz.prog 450 m134 := piece (mm := 0) (l := []) memos_nil (by kernel_rfl)
def m135 : Memo := ⟨[(.int .u32 (.ofNat 1228826161)), i8], [], (.int .u32 (.ofNat 3267491028)), [], 0⟩
theorem k135 : MemoOk Tryz.prog 450 m135 := piece (mm := 0) (l := []) memos_nil (by kernel_rfl)
def m136 : Memo := ⟨[(.int .u32 (.ofNat 3267491028)), i8], [], (.int .u32 (.ofNat 344700736)), [], 0⟩
theorem k136 : MemoOk Tryz.prog 450 m136 := piece (mm := 0) (l := []) memos_nil (by kernel_rfl)
def m137 : Memo := ⟨[(.int .u32 (.ofNat 344700864)), i8], [], (.int .u32 (.ofNat 3281628531)), [], 0⟩
theorem k137 : MemoOk Tryz.prog 450 m137 := piece (mm := 0) (l := []) memos_nil (by kernel_rfl)
def m138 : Memo := ⟨[(.int .u32 (.ofNat 3281628659)), i8], [], (.int .u32 (.ofNat 3774678316)), [], 0⟩
theorem k138 : MemoOk Tryz.prog 450 m138 := piece (mm := 0) (l := []) memos_nil (by kernel_rfl)
def m139 : Memo := ⟨[(.int .u32 (.ofNat 3774678444)), i8], [], (.int .u32 (.ofNat 4024993651)), [], 0⟩
theorem k139 : MemoOk Tryz.prog 450 m139 := piece (mm := 0) (l := []) memos_nil (by kernel_rfl)
def m140 : Memo := ⟨[(.int .u32 (.ofNat 4024993779)), i8], [], (.int .u32 (.ofNat 3771823110)), [], 0⟩
theorem k140 : MemoOk Tryz.prog 450 m140 := piece (mm := 0) (l := []) memos_nil (by kernel_rfl)
def m141 : Memo := ⟨[(.int .u32 (.ofNat 3771823238)), i8], [], (.int .u32 (.ofNat 2763460068)), [], 0⟩
theorem k141 : MemoOk Tryz.prog 450 m141 := piece (mm := 0) (l := []) memos_nil (by kernel_rfl)
def m142 : Memo := ⟨[(.int .u32 (.ofNat 2763460004)), i8], [], (.int .u32 (.ofNat 1702204852)), [], 0⟩
theorem k142 : MemoOk Tryz.prog 450 m142 := piece (mm := 0) (l := []) memos_nil (by kernel_rfl)
def m143 : Memo := ⟨[(.int .u32 (.ofNat 1702204724)), i8], [], (.int .u32 (.ofNat 4145851195)), [], 0⟩
theorem k143 : MemoOk Tryz.prog 450 m143 := piece (mm := 0) (l := []) memos_nil (by kernel_rfl)
def m144 : Memo := ⟨[(.int .u32 (.ofNat 4145851323)), i8], [], (.int .u32 (.ofNat 728483161)), [], 0⟩
theorem k144 : MemoOk Tryz.prog 450 m144 := piece (mm := 0) (l := []) memos_nil (by kernel_rfl)
def m145 : Memo := ⟨[(.int .u32 (.ofNat 728483289)), i8], [], (.int .u32 (.ofNat 2873774498)), [], 0⟩
theorem k145 : MemoOk Tryz.prog 450 m145 := piece (mm := 0) (l := []) memos_nil (by kernel_rfl)
def m146 : Memo := ⟨[(.int .u32 (.ofNat 2873774370)), i8], [], (.int .u32 (.ofNat 3240998008)), [], 0⟩
theorem k146 : MemoOk Tryz.prog 450 m146 := piece (mm := 0) (l := []) memos_nil (by kernel_rfl)
def m147 : Memo := ⟨[(.int .u32 (.ofNat 3240998136)), i8], [], (.int .u32 (.ofNat 2037783054)), [], 0⟩
theorem k147 : MemoOk Tryz.prog 450 m147 := piece (mm := 0) (l := []) memos_nil (by kernel_rfl)
def m148 : Memo := ⟨[(.int .u32 (.ofNat 2037783118)), i8], [], (.int .u32 (.ofNat 3984249985)), [], 0⟩
theorem k148 : MemoOk Tryz.prog 450 m148 := piece (mm := 0) (l := []) memos_nil (by kernel_rfl)
def m149 : Memo := ⟨[(.int .u32 (.ofNat 3984249857)), i8], [], (.int .u32 (.ofNat 4068932055)), [], 0⟩
theorem k149 : MemoOk Tryz.prog 450 m149 := piece (mm := 0) (l := []) memos_nil (by kernel_rfl)
def m150 : Memo := ⟨[(.int .u32 (.ofNat 4068931927)), i8], [], (.int .u32 (.ofNat 2233284801)), [], 0⟩
theorem k150 : MemoOk Tryz.prog 450 m150 := piece (mm := 0) (l := []) memos_nil (by kernel_rfl)
def m151 : Memo := ⟨[(.int .u32 (.ofNat 2233284673)), i8], [], (.int .u32 (.ofNat 3012920199)), [], 0⟩
theorem k151 : MemoOk Tryz.prog 450 m151 := piece (mm := 0) (l := []) memos_nil (by kernel_rfl)
def m152 : Memo := ⟨[(.int .u32 (.ofNat 3012920071)), i8], [], (.int .u32 (.ofNat 3564761448)), [], 0⟩
theorem k152 : MemoOk Tryz.prog 450 m152 := piece (mm := 0) (l := []) memos_nil (by kernel_rfl)
def m153 : Memo := ⟨[(.int .u32 (.ofNat 3564761576)), i8], [], (.int .u32 (.ofNat 1765640484)), [], 0⟩
theorem k153 : MemoOk Tryz.prog 450 m153 := piece (mm := 0) (l := []) memos_nil (by kernel_rfl)
def m154 : Memo := ⟨[(.int .u32 (.ofNat 1765640548)), i8], [], (.int .u32 (.ofNat 2788506100)), [], 0⟩
theorem k154 : MemoOk Tryz.prog 450 m154 := piece (mm := 0) (l := []) memos_nil (by kernel_rfl)
def m155 : Memo := ⟨[(.int .u32 (.ofNat 2788506100)), i8], [], (.int .u32 (.ofNat 877841747)), [], 0⟩
theorem k155 : MemoOk Tryz.prog 450 m155 := piece (mm := 0) (l := []) memos_nil (by kernel_rfl)
def m156 : Memo := ⟨[(.int .u32 (.ofNat 877841875)), i8], [], (.int .u32 (.ofNat 3233235090)), [], 0⟩
theorem k156 : MemoOk Tryz.prog 450 m156 := piece (mm := 0) (l := []) memos_nil (by kernel_rfl)
def m157 : Memo := ⟨[(.int .u32 (.ofNat 3233234962)), i8], [], (.int .u32 (.ofNat 4054122712)), [], 0⟩
theorem k157 : MemoOk Tryz.prog 450 m157 := piece (mm := 0) (l := []) memos_nil (by kernel_rfl)
def m158 : Memo := ⟨[(.int .u32 (.ofNat 4054122584)), i8], [], (.int .u32 (.ofNat 3675072284)), [], 0⟩
theorem k158 : MemoOk Tryz.prog 450 m158 := piece (mm := 0) (l := []) memos_nil (by kernel_rfl)
def m159 : Memo := ⟨[(.int .u32 (.ofNat 3675072412)), i8], [], (.int .u32 (.ofNat 3744480992)), [], 0⟩
theorem k159 : MemoOk Tryz.prog 450 m159 := piece (mm := 0) (l := []) memos_nil (by kernel_rfl)
def m160 : Memo := ⟨[(.int .u32 (.ofNat 3744480864)), i8], [], (.int .u32 (.ofNat 1629070172)), [], 0⟩
theorem k160 : MemoOk Tryz.prog 450 m160 := piece (mm := 0) (l := []) memos_nil (by kernel_rfl)
def m161 : Memo := ⟨[(.int .u32 (.ofNat 1629070300)), i8], [], (.int .u32 (.ofNat 2666608600)), [], 0⟩
theorem k161 : MemoOk Tryz.prog 450 m161 := piece (mm := 0) (l := []) memos_nil (by kernel_rfl)
def m162 : Memo := ⟨[(.int .u32 (.ofNat 2666608601)), i8], [], (.int .u32 (.ofNat 2885667664)), [], 0⟩
theorem k162 : MemoOk Tryz.prog 450 m162 := piece (mm := 0) (l := []) memos_nil (by kernel_rfl)
def m163 : Memo := ⟨[(.int .u32 (.ofNat 2885667792)), i8], [], (.int .u32 (.ofNat 3547864672)), [], 0⟩
theorem k163 : MemoOk Tryz.prog 450 m163 := piece (mm := 0) (l := []) memos_nil (by kernel_rfl)
def m164 : Memo := ⟨[(.int .u32 (.ofNat 3547864800)), i8], [], (.int .u32 (.ofNat 3823357956)), [], 0⟩
theorem k164 : MemoOk Tryz.prog 450 m164 := piece (mm := 0) (l := []) memos_nil (by kernel_rfl)
def m165 : Memo := ⟨[(.int .u32 (.ofNat 3823358084)), i8], [], (.int .u32 (.ofNat 1167019959)), [], 0⟩
theorem k165 : MemoOk Tryz.prog 450 m165 := piece (mm := 0) (l := []) memos_nil (by kernel_rfl)
def m166 : Memo := ⟨[(.int .u32 (.ofNat 1167019831)), i8], [], (.int .u32 (.ofNat 3832324629)), [], 0⟩
theorem k166 : MemoOk Tryz.prog 450 m166 := piece (mm := 0) (l := []) memos_nil (by kernel_rfl)
def m167 : Memo := ⟨[(.int .u32 (.ofNat 3832324757)), i8], [], (.int .u32 (.ofNat 2814215337)), [], 0⟩
theorem k167 : MemoOk Tryz.prog 450 m167 := piece (mm := 0) (l := []) memos_nil (by kernel_rfl)
def m168 : Memo := ⟨[(.int .u32 (.ofNat 2814215401)), i8], [], (.int .u32 (.ofNat 2602946130)), [], 0⟩
theorem k168 : MemoOk Tryz.prog 450 m168 := piece (mm := 0) (l := []) memos_nil (by kernel_rfl)
def m169 : Memo := ⟨[(.int .u32 (.ofNat 2602946258)), i8], [], (.int .u32 (.ofNat 846443666)), [], 0⟩
theorem k169 : MemoOk Tryz.prog 450 m169 := piece (mm := 0) (l := []) memos_nil (by kernel_rfl)
def m170 : Memo := ⟨[(.int .u32 (.ofNat 846443538)), i8], [], (.int .u32 (.ofNat 4049060908)), [], 0⟩
theorem k170 : MemoOk Tryz.prog 450 m170 := piece (mm := 0) (l := []) memos_nil (by kernel_rfl)
def m171 : Memo := ⟨[(.int .u32 (.ofNat 4049061036)), i8], [], (.int .u32 (.ofNat 4026084786)), [], 0⟩
theorem k171 : MemoOk Tryz.prog 450 m171 := piece (mm := 0) (l := []) memos_nil (by kernel_rfl)
def m172 : Memo := ⟨[(.int .u32 (.ofNat 4026084658)), i8], [], (.int .u32 (.ofNat 3510091883)), [], 0⟩
theorem k172 : MemoOk Tryz.prog 450 m172 := piece (mm := 0) (l := []) memos_nil (by kernel_rfl)
def m173 : Memo := ⟨[(.int .u32 (.ofNat 3510092011)), i8], [], (.int .u32 (.ofNat 2053649633)), [], 0⟩
theorem k173 : MemoOk Tryz.prog 450 m173 := piece (mm := 0) (l := []) memos_nil (by kernel_rfl)
def m174 : Memo := ⟨[(.int .u32 (.ofNat 2053649505)), i8], [], (.int .u32 (.ofNat 2480371797)), [], 0⟩
theorem k174 : MemoOk Tryz.prog 450 m174 := piece (mm := 0) (l := []) memos_nil (by kernel_rfl)
def m175 : Memo := ⟨[(.int .u32 (.ofNat 2480371796)), i8], [], (.int .u32 (.ofNat 2519505588)), [], 0⟩
theorem k175 : MemoOk Tryz.prog 450 m175 := piece (mm := 0) (l := []) memos_nil (by kernel_rfl)
def m176 : Memo := ⟨[(.int .u32 (.ofNat 2519505588)), i8], [], (.int .u32 (.ofNat 1964624204)), [], 0⟩
theorem k176 : MemoOk Tryz.prog 450 m176 := piece (mm := 0) (l := []) memos_nil (by kernel_rfl)
def m177 : Memo := ⟨[(.int .u32 (.ofNat 1964624206)), i8], [], (.int .u32 (.ofNat 3983981394)), [], 0⟩
theorem k177 : MemoOk Tryz.prog 450 m177 := piece (mm := 0) (l := []) memos_nil (by kernel_rfl)
def m178 : Memo := ⟨[(.int .u32 (.ofNat 3983981395)), i8], [], (.int .u32 (.ofNat 1117282204)), [], 0⟩
theorem k178 : MemoOk Tryz.prog 450 m178 := piece (mm := 0) (l := []) memos_nil (by kernel_rfl)
def m179 : Memo := ⟨[(.int .u32 (.ofNat 1117282204)), i8], [], (.int .u32 (.ofNat 3752438680)), [], 0⟩
theorem k179 : MemoOk Tryz.prog 450 m179 := piece (mm := 0) (l := []) memos_nil (by kernel_rfl)
def m180 : Memo := ⟨[(.int .u32 (.ofNat 3752438552)), i8], [], (.int .u32 (.ofNat 2589472267)), [], 0⟩
theorem k180 : MemoOk Tryz.prog 450 m180 := piece (mm := 0) (l := []) memos_nil (by kernel_rfl)
def m181 : Memo := ⟨[(.int .u32 (.ofNat 2589472395)), i8], [], (.int .u32 (.ofNat 468043893)), [], 0⟩
theorem k181 : MemoOk Tryz.prog 450 m181 := piece (mm := 0) (l := []) memos_nil (by kernel_rfl)
def m182 : Memo := ⟨[(.int .u32 (.ofNat 468044021)), i8], [], (.int .u32 (.ofNat 3330580129)), [], 0⟩
theorem k182 : MemoOk Tryz.prog 450 m182 := piece (mm := 0) (l := []) memos_nil (by kernel_rfl)
def m183 : Memo := ⟨[(.int .u32 (.ofNat 3330580001)), i8], [], (.int .u32 (.ofNat 3524299075)), [], 0⟩
theorem k183 : MemoOk Tryz.prog 450 m183 := piece (mm := 0) (l := []) memos_nil (by kernel_rfl)
def m184 : Memo := ⟨[(.int .u32 (.ofNat 3524299203)), i8], [], (.int .u32 (.ofNat 3490694585)), [], 0⟩
theorem k184 : MemoOk Tryz.prog 450 m184 := piece (mm := 0) (l := []) memos_nil (by kernel_rfl)
def m185 : Memo := ⟨[(.int .u32 (.ofNat 3490694649)), i8], [], (.int .u32 (.ofNat 2332867452)), [], 0⟩
theorem k185 : MemoOk Tryz.prog 450 m185 := piece (mm := 0) (l := []) memos_nil (by kernel_rfl)
def m186 : Memo := ⟨[(.int .u32 (.ofNat 2332867580)), i8], [], (.int .u32 (.ofNat 3198594078)), [], 0⟩
theorem k186 : MemoOk Tryz.prog 450 m186 := piece (mm := 0) (l := []) memos_nil (by kernel_rfl)
def m187 : Memo := ⟨[(.int .u32 (.ofNat 3198594206)), i8], [], (.int .u32 (.ofNat 1047455132)), [], 0⟩
theorem k187 : MemoOk Tryz.prog 450 m187 := piece (mm := 0) (l := []) memos_nil (by kernel_rfl)
def m188 : Memo := ⟨[(.int .u32 (.ofNat 1047455004)), i8], [], (.int .u32 (.ofNat 1562601050)), [], 0⟩
theorem k188 : MemoOk Tryz.prog 450 m188 := piece (mm := 0) (l := []) memos_nil (by kernel_rfl)
def m189 : Memo := ⟨[(.int .u32 (.ofNat 1562601178)), i8], [], (.int .u32 (.ofNat 3094145781)), [], 0⟩
theorem k189 : MemoOk Tryz.prog 450 m189 := piece (mm := 0) (l := []) memos_nil (by kernel_rfl)
def m190 : Memo := ⟨[(.int .u32 (.ofNat 3094145653)), i8], [], (.int .u32 (.ofNat 1154559227)), [], 0⟩
theorem k190 : MemoOk Tryz.prog 450 m190 := piece (mm := 0) (l := []) memos_nil (by kernel_rfl)
def m191 : Memo := ⟨[(.int .u32 (.ofNat 1154559163)), i8], [], (.int .u32 (.ofNat 735578334)), [], 0⟩
theorem k191 : MemoOk Tryz.prog 450 m191 := piece (mm := 0) (l := []) memos_nil (by kernel_rfl)
def m192 : Memo := ⟨[(.int .u32 (.ofNat 735578206)), i8], [], (.int .u32 (.ofNat 4252417532)), [], 0⟩
theorem k192 : MemoOk Tryz.prog 450 m192 := piece (mm := 0) (l := []) memos_nil (by kernel_rfl)
def m193 : Memo := ⟨[(.int .u32 (.ofNat 4252417404)), i8], [], (.int .u32 (.ofNat 1009184096)), [], 0⟩
theorem k193 : MemoOk Tryz.prog 450 m193 := piece (mm := 0) (l := []) memos_nil (by kernel_rfl)
def m194 : Memo := ⟨[(.int .u32 (.ofNat 1009184224)), i8], [], (.int .u32 (.ofNat 3809251063)), [], 0⟩
theorem k194 : MemoOk Tryz.prog 450 m194 := piece (mm := 0) (l := []) memos_nil (by kernel_rfl)
def m195 : Memo := ⟨[(.int .u32 (.ofNat 3809250935)), i8], [], (.int .u32 (.ofNat 2779855976)), [], 0⟩
theorem k195 : MemoOk Tryz.prog 450 m195 := piece (mm := 0) (l := []) memos_nil (by kernel_rfl)
def m196 : Memo := ⟨[(.int .u32 (.ofNat 2779856104)), i8], [], (.int .u32 (.ofNat 1766605289)), [], 0⟩
theorem k196 : MemoOk Tryz.prog 450 m196 := piece (mm := 0) (l := []) memos_nil (by kernel_rfl)
def m197 : Memo := ⟨[(.int .u32 (.ofNat 1766605225)), i8], [], (.int .u32 (.ofNat 3666879019)), [], 0⟩
theorem k197 : MemoOk Tryz.prog 450 m197 := piece (mm := 0) (l := []) memos_nil (by kernel_rfl)
def m198 : Memo := ⟨[(.int .u32 (.ofNat 3666879019)), i8], [], (.int .u32 (.ofNat 3119429063)), [], 0⟩
theorem k198 : MemoOk Tryz.prog 450 m198 := piece (mm := 0) (l := []) memos_nil (by kernel_rfl)
def m199 : Memo := ⟨[(.int .u32 (.ofNat 3119428935)), i8], [], (.int .u32 (.ofNat 2500368354)), [], 0⟩
theorem k199 : MemoOk Tryz.prog 450 m199 := piece (mm := 0) (l := []) memos_nil (by kernel_rfl)
def m200 : Memo := ⟨[(.int .u32 (.ofNat 2500368226)), i8], [], (.int .u32 (.ofNat 2154359554)), [], 0⟩
theorem k200 : MemoOk Tryz.prog 450 m200 := piece (mm := 0) (l := []) memos_nil (by kernel_rfl)
def m201 : Memo := ⟨[(.int .u32 (.ofNat 2154359682)), i8], [], (.int .u32 (.ofNat 1665999716)), [], 0⟩
theorem k201 : MemoOk Tryz.prog 450 m201 := piece (mm := 0) (l := []) memos_nil (by kernel_rfl)
def m202 : Memo := ⟨[(.int .u32 (.ofNat 1665999844)), i8], [], (.int .u32 (.ofNat 617181734)), [], 0⟩
theorem k202 : MemoOk Tryz.prog 450 m202 := piece (mm := 0) (l := []) memos_nil (by kernel_rfl)
def m203 : Memo := ⟨[(.int .u32 (.ofNat 617181862)), i8], [], (.int .u32 (.ofNat 2228132668)), [], 0⟩
theorem k203 : MemoOk Tryz.prog 450 m203 := piece (mm := 0) (l := []) memos_nil (by kernel_rfl)
def m204 : Memo := ⟨[(.int .u32 (.ofNat 2228132796)), i8], [], (.int .u32 (.ofNat 4291982210)), [], 0⟩
theorem k204 : MemoOk Tryz.prog 450 m204 := piece (mm := 0) (l := []) memos_nil (by kernel_rfl)
def m205 : Memo := ⟨[(.int .u32 (.ofNat 4291982211)), i8], [], (.int .u32 (.ofNat 2438535935)), [], 0⟩
theorem k205 : MemoOk Tryz.prog 450 m205 := piece (mm := 0) (l := []) memos_nil (by kernel_rfl)
def m206 : Memo := ⟨[(.int .u32 (.ofNat 2438535807)), i8], [], (.int .u32 (.ofNat 790245683)), [], 0⟩
theorem k206 : MemoOk Tryz.prog 450 m206 := piece (mm := 0) (l := []) memos_nil (by kernel_rfl)
def m207 : Memo := ⟨[(.int .u32 (.ofNat 790245811)), i8], [], (.int .u32 (.ofNat 2708118284)), [], 0⟩
theorem k207 : MemoOk Tryz.prog 450 m207 := piece (mm := 0) (l := []) memos_nil (by kernel_rfl)
def m208 : Memo := ⟨[(.int .u32 (.ofNat 2708118412)), i8], [], (.int .u32 (.ofNat 3474234931)), [], 0⟩
theorem k208 : MemoOk Tryz.prog 450 m208 := piece (mm := 0) (l := []) memos_nil (by kernel_rfl)
def m209 : Memo := ⟨[(.int .u32 (.ofNat 3474235059)), i8], [], (.int .u32 (.ofNat 2710214051)), [], 0⟩
theorem k209 : MemoOk Tryz.prog 450 m209 := piece (mm := 0) (l := []) memos_nil (by kernel_rfl)
def m210 : Memo := ⟨[(.int .u32 (.ofNat 2710213923)), i8], [], (.int .u32 (.ofNat 860682175)), [], 0⟩
theorem k210 : MemoOk Tryz.prog 450 m210 := piece (mm := 0) (l := []) memos_nil (by kernel_rfl)
def m211 : Memo := ⟨[(.int .u32 (.ofNat 860682239)), i8], [], (.int .u32 (.ofNat 2907578278)), [], 0⟩
theorem k211 : MemoOk Tryz.prog 450 m211 := piece (mm := 0) (l := []) memos_nil (by kernel_rfl)
def m212 : Memo := ⟨[(.int .u32 (.ofNat 2907578150)), i8], [], (.int .u32 (.ofNat 112273193)), [], 0⟩
theorem k212 : MemoOk Tryz.prog 450 m212 := piece (mm := 0) (l := []) memos_nil (by kernel_rfl)
def m213 : Memo := ⟨[(.int .u32 (.ofNat 112273321)), i8], [], (.int .u32 (.ofNat 3674201933)), [], 0⟩
theorem k213 : MemoOk Tryz.prog 450 m213 := piece (mm := 0) (l := []) memos_nil (by kernel_rfl)
def m214 : Memo := ⟨[(.int .u32 (.ofNat 3674202061)), i8], [], (.int .u32 (.ofNat 2088736200)), [], 0⟩
theorem k214 : MemoOk Tryz.prog 450 m214 := piece (mm := 0) (l := []) memos_nil (by kernel_rfl)
def m215 : Memo := ⟨[(.int .u32 (.ofNat 2088736072)), i8], [], (.int .u32 (.ofNat 3420338918)), [], 0⟩
theorem k215 : MemoOk Tryz.prog 450 m215 := piece (mm := 0) (l := []) memos_nil (by kernel_rfl)
def m216 : Memo := ⟨[(.int .u32 (.ofNat 3420338790)), i8], [], (.int .u32 (.ofNat 1202498224)), [], 0⟩
theorem k216 : MemoOk Tryz.prog 450 m216 := piece (mm := 0) (l := []) memos_nil (by kernel_rfl)
def m217 : Memo := ⟨[(.int .u32 (.ofNat 1202498096)), i8], [], (.int .u32 (.ofNat 816112923)), [], 0⟩
theorem k217 : MemoOk Tryz.prog 450 m217 := piece (mm := 0) (l := []) memos_nil (by kernel_rfl)
def m218 : Memo := ⟨[(.int .u32 (.ofNat 816112922)), i8], [], (.int .u32 (.ofNat 2072791986)), [], 0⟩
theorem k218 : MemoOk Tryz.prog 450 m218 := piece (mm := 0) (l := []) memos_nil (by kernel_rfl)
def m219 : Memo := ⟨[(.int .u32 (.ofNat 2072791986)), i8], [], (.int .u32 (.ofNat 1398115957)), [], 0⟩
theorem k219 : MemoOk Tryz.prog 450 m219 := piece (mm := 0) (l := []) memos_nil (by kernel_rfl)
def m220 : Memo := ⟨[(.int .u32 (.ofNat 1398115956)), i8], [], (.int .u32 (.ofNat 3058800284)), [], 0⟩
theorem k220 : MemoOk Tryz.prog 450 m220 := piece (mm := 0) (l := []) memos_nil (by kernel_rfl)
def m221 : Memo := ⟨[(.int .u32 (.ofNat 3058800284)), i8], [], (.int .u32 (.ofNat 3747439185)), [], 0⟩
theorem k221 : MemoOk Tryz.prog 450 m221 := piece (mm := 0) (l := []) memos_nil (by kernel_rfl)
def m222 : Memo := ⟨[(.int .u32 (.ofNat 3747439313)), i8], [], (.int .u32 (.ofNat 560414666)), [], 0⟩
theorem k222 : MemoOk Tryz.prog 450 m222 := piece (mm := 0) (l := []) memos_nil (by kernel_rfl)
def m223 : Memo := ⟨[(.int .u32 (.ofNat 560414538)), i8], [], (.int .u32 (.ofNat 716722875)), [], 0⟩
theorem k223 : MemoOk Tryz.prog 450 m223 := piece (mm := 0) (l := []) memos_nil (by kernel_rfl)
def m224 : Memo := ⟨[(.int .u32 (.ofNat 716722747)), i8], [], (.int .u32 (.ofNat 2839567064)), [], 0⟩
theorem k224 : MemoOk Tryz.prog 450 m224 := piece (mm := 0) (l := []) memos_nil (by kernel_rfl)
def m225 : Memo := ⟨[(.int .u32 (.ofNat 2839566936)), i8], [], (.int .u32 (.ofNat 3679830598)), [], 0⟩
theorem k225 : MemoOk Tryz.prog 450 m225 := piece (mm := 0) (l := []) memos_nil (by kernel_rfl)
def m226 : Memo := ⟨[(.int .u32 (.ofNat 3679830726)), i8], [], (.int .u32 (.ofNat 3858207982)), [], 0⟩
theorem k226 : MemoOk Tryz.prog 450 m226 := piece (mm := 0) (l := []) memos_nil (by kernel_rfl)
def m227 : Memo := ⟨[(.int .u32 (.ofNat 3858207918)), i8], [], (.int .u32 (.ofNat 248970517)), [], 0⟩
theorem k227 : MemoOk Tryz.prog 450 m227 := piece (mm := 0) (l := []) memos_nil (by kernel_rfl)
def m228 : Memo := ⟨[(.int .u32 (.ofNat 248970645)), i8], [], (.int .u32 (.ofNat 2807512822)), [], 0⟩
theorem k228 : MemoOk Tryz.prog 450 m228 := piece (mm := 0) (l := []) memos_nil (by kernel_rfl)
def m229 : Memo := ⟨[(.int .u32 (.ofNat 2807512694)), i8], [], (.int .u32 (.ofNat 1470031067)), [], 0⟩
theorem k229 : MemoOk Tryz.prog 450 m229 := piece (mm := 0) (l := []) memos_nil (by kernel_rfl)
def m230 : Memo := ⟨[(.int .u32 (.ofNat 1470030939)), i8], [], (.int .u32 (.ofNat 3371953932)), [], 0⟩
theorem k230 : MemoOk Tryz.prog 450 m230 := piece (mm := 0) (l := []) memos_nil (by kernel_rfl)
def m231 : Memo := ⟨[(.int .u32 (.ofNat 3371954060)), i8], [], (.int .u32 (.ofNat 3481079623)), [], 0⟩
theorem k231 : MemoOk Tryz.prog 450 m231 := piece (mm := 0) (l := []) memos_nil (by kernel_rfl)
def m232 : Memo := ⟨[(.int .u32 (.ofNat 3481079751)), i8], [], (.int .u32 (.ofNat 394805024)), [], 0⟩
theorem k232 : MemoOk Tryz.prog 450 m232 := piece (mm := 0) (l := []) memos_nil (by kernel_rfl)
def m233 : Memo := ⟨[(.int .u32 (.ofNat 394805088)), i8], [], (.int .u32 (.ofNat 1641093981)), [], 0⟩
theorem k233 : MemoOk Tryz.prog 450 m233 := piece (mm := 0) (l := []) memos_nil (by kernel_rfl)
def m234 : Memo := ⟨[(.int .u32 (.ofNat 1641094109)), i8], [], (.int .u32 (.ofNat 1822063715)), [], 0⟩
theorem k234 : MemoOk Tryz.prog 450 m234 := piece (mm := 0) (l := []) memos_nil (by kernel_rfl)
def m235 : Memo := ⟨[(.int .u32 (.ofNat 1822063843)), i8], [], (.int .u32 (.ofNat 4027367826)), [], 0⟩
theorem k235 : MemoOk Tryz.prog 450 m235 := piece (mm := 0) (l := []) memos_nil (by kernel_rfl)
def m236 : Memo := ⟨[(.int .u32 (.ofNat 4027367698)), i8], [], (.int .u32 (.ofNat 4053121881)), [], 0⟩
theorem k236 : MemoOk Tryz.prog 450 m236 := piece (mm := 0) (l := []) memos_nil (by kernel_rfl)
def m237 : Memo := ⟨[(.int .u32 (.ofNat 4053122009)), i8], [], (.int .u32 (.ofNat 2878386140)), [], 0⟩
theorem k237 : MemoOk Tryz.prog 450 m237 := piece (mm := 0) (l := []) memos_nil (by kernel_rfl)
def m238 : Memo := ⟨[(.int .u32 (.ofNat 2878386012)), i8], [], (.int .u32 (.ofNat 483231148)), [], 0⟩
theorem k238 : MemoOk Tryz.prog 450 m238 := piece (mm := 0) (l := []) memos_nil (by kernel_rfl)
def m239 : Memo := ⟨[(.int .u32 (.ofNat 483231212)), i8], [], (.int .u32 (.ofNat 2926553679)), [], 0⟩
theorem k239 : MemoOk Tryz.prog 450 m239 := piece (mm := 0) (l := []) memos_nil (by kernel_rfl)
def m240 : Memo := ⟨[(.int .u32 (.ofNat 2926553679)), i8], [], (.int .u32 (.ofNat 533089842)), [], 0⟩
theorem k240 : MemoOk Tryz.prog 450 m240 := piece (mm := 0) (l := []) memos_nil (by kernel_rfl)
def m241 : Memo := ⟨[(.int .u32 (.ofNat 533089842)), i8], [], (.int .u32 (.ofNat 3519545096)), [], 0⟩
theorem k241 : MemoOk Tryz.prog 450 m241 := piece (mm := 0) (l := []) memos_nil (by kernel_rfl)
def m242 : Memo := ⟨[(.int .u32 (.ofNat 3519545224)), i8], [], (.int .u32 (.ofNat 150905928)), [], 0⟩
theorem k242 : MemoOk Tryz.prog 450 m242 := piece (mm := 0) (l := []) memos_nil (by kernel_rfl)
def m243 : Memo := ⟨[(.int .u32 (.ofNat 150906056)), i8], [], (.int .u32 (.ofNat 1230799023)), [], 0⟩
theorem k243 : MemoOk Tryz.prog 450 m243 := piece (mm := 0) (l := []) memos_nil (by kernel_rfl)
def m244 : Memo := ⟨[(.int .u32 (.ofNat 1230798895)), i8], [], (.int .u32 (.ofNat 2129129082)), [], 0⟩
theorem k244 : MemoOk Tryz.prog 450 m244 := piece (mm := 0) (l := []) memos_nil (by kernel_rfl)
def m245 : Memo := ⟨[(.int .u32 (.ofNat 2129129210)), i8], [], (.int .u32 (.ofNat 2566037667)), [], 0⟩
theorem k245 : MemoOk Tryz.prog 450 m245 := piece (mm := 0) (l := []) memos_nil (by kernel_rfl)
def m246 : Memo := ⟨[(.int .u32 (.ofNat 2566037539)), i8], [], (.int .u32 (.ofNat 863342474)), [], 0⟩
theorem k246 : MemoOk Tryz.prog 450 m246 := piece (mm := 0) (l := []) memos_nil (by kernel_rfl)
def m247 : Memo := ⟨[(.int .u32 (.ofNat 863342538)), i8], [], (.int .u32 (.ofNat 2824633203)), [], 0⟩
theorem k247 : MemoOk Tryz.prog 450 m247 := piece (mm := 0) (l := []) memos_nil (by kernel_rfl)
def m248 : Memo := ⟨[(.int .u32 (.ofNat 2824633331)), i8], [], (.int .u32 (.ofNat 3767976186)), [], 0⟩
theorem k248 : MemoOk Tryz.prog 450 m248 := piece (mm := 0) (l := []) memos_nil (by kernel_rfl)
def m249 : Memo := ⟨[(.int .u32 (.ofNat 3767976058)), i8], [], (.int .u32 (.ofNat 446360309)), [], 0⟩
theorem k249 : MemoOk Tryz.prog 450 m249 := piece (mm := 0) (l := []) memos_nil (by kernel_rfl)
def m250 : Memo := ⟨[(.int .u32 (.ofNat 446360181)), i8], [], (.int .u32 (.ofNat 1148443387)), [], 0⟩
theorem k250 : MemoOk Tryz.prog 450 m250 := piece (mm := 0) (l := []) memos_nil (by kernel_rfl)
def m251 : Memo := ⟨[(.int .u32 (.ofNat 1148443259)), i8], [], (.int .u32 (.ofNat 3897920748)), [], 0⟩
theorem k251 : MemoOk Tryz.prog 450 m251 := piece (mm := 0) (l := []) memos_nil (by kernel_rfl)
def m252 : Memo := ⟨[(.int .u32 (.ofNat 3897920620)), i8], [], (.int .u32 (.ofNat 745343294)), [], 0⟩
theorem k252 : MemoOk Tryz.prog 450 m252 := piece (mm := 0) (l := []) memos_nil (by kernel_rfl)
def m253 : Memo := ⟨[(.int .u32 (.ofNat 745343422)), i8], [], (.int .u32 (.ofNat 507617511)), [], 0⟩
theorem k253 : MemoOk Tryz.prog 450 m253 := piece (mm := 0) (l := []) memos_nil (by kernel_rfl)
def m254 : Memo := ⟨[(.int .u32 (.ofNat 507617510)), i8], [], (.int .u32 (.ofNat 3314486866)), [], 0⟩
theorem k254 : MemoOk Tryz.prog 450 m254 := piece (mm := 0) (l := []) memos_nil (by kernel_rfl)
def m255 : Memo := ⟨[(.int .u32 (.ofNat 3314486866)), i8], [], (.int .u32 (.ofNat 2967151914)), [], 0⟩
theorem k255 : MemoOk Tryz.prog 450 m255 := piece (mm := 0) (l := []) memos_nil (by kernel_rfl)
def m256 : Memo := ⟨[(.int .u32 (.ofNat 0)), (L p1 0 123 1)], [(.row [u4, u121, u1, u0, u128, u128, u128, u128, u128, u64, u128, u128, u128, u128, u128, u64, u128, u128, u128, u128, u128, u64, u0, u128, u128, u128, u128, u128, u128, u1, u128, u128, u128, u128, u128, u64, u128, u128, u128, u128, u128, u128, u1, u0, u2, u1, u0, u128, u128, u128, u128, u128, u64, u128, u128, u128, u128, u128, u64, u128, u128, u128, u128, u128, u64, u0, u128, u128, u128, u128, u128, u128, u1, u128, u128, u128, u128, u128, u64, u128, u128, u128, u128, u128, u128, u1, u0, u1, u0, u128, u128, u128, u128, u128, u64, u128, u128, u128, u128, u128, u64, u128, u128, u128, u128, u128, u64, u0, u0, u128, u128, u128, u128, u128, u64, u128, u128, u128, u128, u128, u128, u1, u0] 5 1 true false 0 none)], (.int .u32 (.ofNat 1327815381)), [], 0⟩
theorem k256 : MemoOk Tryz.prog 306 m256 := piece (mm := 2907354897182427562197295231552018137414565442749272241125960796722557152453591693304764202855054262243050086425064711734138406514458624) (l := [(450, m133), (450, m134), (450, m135), (450, m136), (450, m137), (450, m138), (450, m139), (450, m140), (450, m141), (450, m142), (450, m143), (450, m144), (450, m145), (450, m146), (450, m147), (450, m148), (450, m149), (450, m150), (450, m151), (450, m152), (450, m153), (450, m154), (450, m155), (450, m156), (450, m157), (450, m158), (450, m159), (450, m160), (450, m161), (450, m162), (450, m163), (450, m164), (450, m165), (450, m166), (450, m167), (450, m168), (450, m169), (450, m170), (450, m171), (450, m172), (450, m173), (450, m174), (450, m175), (450, m176), (450, m177), (450, m178), (450, m179), (450, m180), (450, m181), (450, m182), (450, m183), (450, m184), (450, m185), (450, m186), (450, m187), (450, m188), (450, m189), (450, m190), (450, m191), (450, m192), (450, m193), (450, m194), (450, m195), (450, m196), (450, m197), (450, m198), (450, m199), (450, m200), (450, m201), (450, m202), (450, m203), (450, m204), (450, m205), (450, m206), (450, m207), (450, m208), (450, m209), (450, m210), (450, m211), (450, m212), (450, m213), (450, m214), (450, m215), (450, m216), (450, m217), (450, m218), (450, m219), (450, m220), (450, m221), (450, m222), (450, m223), (450, m224), (450, m225), (450, m226), (450, m227), (450, m228), (450, m229), (450, m230), (450, m231), (450, m232), (450, m233), (450, m234), (450, m235), (450, m236), (450, m237), (450, m238), (450, m239), (450, m240), (450, m241), (450, m242), (450, m243), (450, m244), (450, m245), (450, m246), (450, m247), (450, m248), (450, m249), (450, m250), (450, m251), (450, m252), (450, m253), (450, m254), (450, m255)]) (memos_cons k133 (memos_cons k134 (memos_cons k135 (memos_cons k136 (memos_cons k137 (memos_cons k138 (memos_cons k139 (memos_cons k140 (memos_cons k141 (memos_cons k142 (memos_cons k143 (memos_cons k144 (memos_cons k145 (memos_cons k146 (memos_cons k147 (memos_cons k148 (memos_cons k149 (memos_cons k150 (memos_cons k151 (memos_cons k152 (memos_cons k153 (memos_cons k154 (memos_cons k155 (memos_cons k156 (memos_cons k157 (memos_cons k158 (memos_cons k159 (memos_cons k160 (memos_cons k161 (memos_cons k162 (memos_cons k163 (memos_cons k164 (memos_cons k165 (memos_cons k166 (memos_cons k167 (memos_cons k168 (memos_cons k169 (memos_cons k170 (memos_cons k171 (memos_cons k172 (memos_cons k173 (memos_cons k174 (memos_cons k175 (memos_cons k176 (memos_cons k177 (memos_cons k178 (memos_cons k179 (memos_cons k180 (memos_cons k181 (memos_cons k182 (memos_cons k183 (memos_cons k184 (memos_cons k185 (memos_cons k186 (memos_cons k187 (memos_cons k188 (memos_cons k189 (memos_cons k190 (memos_cons k191 (memos_cons k192 (memos_cons k193 (memos_cons k194 (memos_cons k195 (memos_cons k196 (memos_cons k197 (memos_cons k198 (memos_cons k199 (memos_cons k200 (memos_cons k201 (memos_cons k202 (memos_cons k203 (memos_cons k204 (memos_cons k205 (memos_cons k206 (memos_cons k207 (memos_cons k208 (memos_cons k209 (memos_cons k210 (memos_cons k211 (memos_cons k212 (memos_cons k213 (memos_cons k214 (memos_cons k215 (memos_cons k216 (memos_cons k217 (memos_cons k218 (memos_cons k219 (memos_cons k220 (memos_cons k221 (memos_cons k222 (memos_cons k223 (memos_cons k224 (memos_cons k225 (memos_cons k226 (memos_cons k227 (memos_cons k228 (memos_cons k229 (memos_cons k230 (memos_cons k231 (memos_cons k232 (memos_cons k233 (memos_cons k234 (memos_cons k235 (memos_cons k236 (memos_cons k237 (memos_cons k238 (memos_cons k239 (memos_cons k240 (memos_cons k241 (memos_cons k242 (memos_cons k243 (memos_cons k244 (memos_cons k245 (memos_cons k246 (memos_cons k247 (memos_cons k248 (memos_cons k249 (memos_cons k250 (memos_cons k251 (memos_cons k252 (memos_cons k253 (memos_cons k254 (memos_cons k255 memos_nil))))))))))))))))))))))))))))))))))))))))))))))))))))))))))))))))))))))))))))))))))))))))))))))))))))))))))))))))))))))))))) (by kernel_rfl)
def m257 : Memo := ⟨[(A [i4, (L p1 0 121 1)])], [(.row [u1, u0, u128, u128, u128, u128, u128, u64, u128, u128, u128, u128, u128, u64, u128, u128, u128, u128, u128, u64, u0, u128, u128, u128, u128, u128, u128, u1, u128, u128, u128, u128, u128, u64, u128, u128, u128, u128, u128, u128, u1, u0, u2, u1, u0, u128, u128, u128, u128, u128, u64, u128, u128, u128, u128, u128, u64, u128, u128, u128, u128, u128, u64, u0, u128, u128, u128, u128, u128, u128, u1, u128, u128, u128, u128, u128, u64, u128, u128, u128, u128, u128, u128, u1, u0, u1, u0, u128, u128, u128, u128, u128, u64, u128, u128, u128, u128, u128, u64, u128, u128, u128, u128, u128, u64, u0, u0, u128, u128, u128, u128, u128, u64, u128, u128, u128, u128, u128, u128, u1, u0] 5 1 true false 0 none)], (L p2 0 127 1), [(p2, some (.row [u4, u121, u1, u0, u128, u128, u128, u128, u128, u64, u128, u128, u128, u128, u128, u64, u128, u128, u128, u128, u128, u64, u0, u128, u128, u128, u128, u128, u128, u1, u128, u128, u128, u128, u128, u64, u128, u128, u128, u128, u128, u128, u1, u0, u2, u1, u0, u128, u128, u128, u128, u128, u64, u128, u128, u128, u128, u128, u64, u128, u128, u128, u128, u128, u64, u0, u128, u128, u128, u128, u128, u128, u1, u128, u128, u128, u128, u128, u64, u128, u128, u128, u128, u128, u128, u1, u0, u1, u0, u128, u128, u128, u128, u128, u64, u128, u128, u128, u128, u128, u64, u128, u128, u128, u128, u128, u64, u0, u0, u128, u128, u128, u128, u128, u64, u128, u128, u128, u128, u128, u128, u1, u0, u213, u218, u36, u79] 5 1 true false 0 none))], 1⟩
theorem k257 : MemoOk Tryz.prog 84 m257 := piece (mm := 130370302485407109521180524058200202307293977194619920040712988758680403184853549195737432064) (l := [(306, m256)]) (memos_cons k256 memos_nil) (by kernel_rfl)
def m258 : Memo := ⟨[(.int .u32 (.ofNat 4294967290)), i8], [], (.int .u32 (.ofNat 2557720754)), [], 0⟩
theorem k258 : MemoOk Tryz.prog 450 m258 := piece (mm := 0) (l := []) memos_nil (by kernel_rfl)
def m259 : Memo := ⟨[(.int .u32 (.ofNat 2557720757)), i8], [], (.int .u32 (.ofNat 2273056109)), [], 0⟩
theorem k259 : MemoOk Tryz.prog 450 m259 := piece (mm := 0) (l := []) memos_nil (by kernel_rfl)
end Go.Proofs.YtdkeobkooiaacaaGreatDoor.Tab
