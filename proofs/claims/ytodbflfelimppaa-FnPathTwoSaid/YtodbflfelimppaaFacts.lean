/- Closed facts on the seat's program: sizes of types, places of fields, functions that have a body. No statement of the seat is proved here. -/
import Derived.Test.YtodbflfelimppaaMem
namespace Go.Proofs.Ytodbflfelimppaa.Eng
theorem ag126 : aggT Try.prog 126 2 = true := by kernel_rfl
theorem ag149 : aggT Try.prog 149 3 = true := by kernel_rfl
theorem ag25 : aggT Try.prog 25 5 = true := by kernel_rfl
theorem ag31 : aggT Try.prog 31 5 = true := by kernel_rfl
theorem ag52 : aggT Try.prog 52 3 = true := by kernel_rfl
theorem ag81 : aggT Try.prog 81 13 = true := by kernel_rfl
theorem ag84 : aggT Try.prog 84 13 = true := by kernel_rfl
theorem en10 : entT Try.prog 10 = true := by kernel_rfl
theorem en100 : entT Try.prog 100 = true := by kernel_rfl
theorem en101 : entT Try.prog 101 = true := by kernel_rfl
theorem en102 : entT Try.prog 102 = true := by kernel_rfl
theorem en103 : entT Try.prog 103 = true := by kernel_rfl
theorem en104 : entT Try.prog 104 = true := by kernel_rfl
theorem en105 : entT Try.prog 105 = true := by kernel_rfl
theorem en106 : entT Try.prog 106 = true := by kernel_rfl
theorem en107 : entT Try.prog 107 = true := by kernel_rfl
theorem en108 : entT Try.prog 108 = true := by kernel_rfl
theorem en109 : entT Try.prog 109 = true := by kernel_rfl
theorem en11 : entT Try.prog 11 = true := by kernel_rfl
theorem en110 : entT Try.prog 110 = true := by kernel_rfl
theorem en111 : entT Try.prog 111 = true := by kernel_rfl
theorem en112 : entT Try.prog 112 = true := by kernel_rfl
theorem en113 : entT Try.prog 113 = true := by kernel_rfl
theorem en114 : entT Try.prog 114 = true := by kernel_rfl
theorem en115 : entT Try.prog 115 = true := by kernel_rfl
theorem en116 : entT Try.prog 116 = true := by kernel_rfl
theorem en117 : entT Try.prog 117 = true := by kernel_rfl
theorem en118 : entT Try.prog 118 = true := by kernel_rfl
theorem en119 : entT Try.prog 119 = true := by kernel_rfl
theorem en12 : entT Try.prog 12 = true := by kernel_rfl
theorem en120 : entT Try.prog 120 = true := by kernel_rfl
theorem en121 : entT Try.prog 121 = true := by kernel_rfl
theorem en122 : entT Try.prog 122 = true := by kernel_rfl
theorem en123 : entT Try.prog 123 = true := by kernel_rfl
theorem en124 : entT Try.prog 124 = true := by kernel_rfl
theorem en125 : entT Try.prog 125 = true := by kernel_rfl
theorem en126 : entT Try.prog 126 = true := by kernel_rfl
theorem en127 : entT Try.prog 127 = true := by kernel_rfl
theorem en128 : entT Try.prog 128 = true := by kernel_rfl
theorem en129 : entT Try.prog 129 = true := by kernel_rfl
theorem en13 : entT Try.prog 13 = true := by kernel_rfl
theorem en130 : entT Try.prog 130 = true := by kernel_rfl
theorem en131 : entT Try.prog 131 = true := by kernel_rfl
theorem en132 : entT Try.prog 132 = true := by kernel_rfl
theorem en133 : entT Try.prog 133 = true := by kernel_rfl
theorem en134 : entT Try.prog 134 = true := by kernel_rfl
theorem en135 : entT Try.prog 135 = true := by kernel_rfl
theorem en136 : entT Try.prog 136 = true := by kernel_rfl
theorem en137 : entT Try.prog 137 = true := by kernel_rfl
theorem en138 : entT Try.prog 138 = true := by kernel_rfl
theorem en139 : entT Try.prog 139 = true := by kernel_rfl
theorem en14 : entT Try.prog 14 = true := by kernel_rfl
theorem en140 : entT Try.prog 140 = true := by kernel_rfl
theorem en141 : entT Try.prog 141 = true := by kernel_rfl
theorem en142 : entT Try.prog 142 = true := by kernel_rfl
theorem en143 : entT Try.prog 143 = true := by kernel_rfl
theorem en144 : entT Try.prog 144 = true := by kernel_rfl
theorem en145 : entT Try.prog 145 = true := by kernel_rfl
theorem en146 : entT Try.prog 146 = true := by kernel_rfl
theorem en147 : entT Try.prog 147 = true := by kernel_rfl
theorem en149 : entT Try.prog 149 = true := by kernel_rfl
theorem en15 : entT Try.prog 15 = true := by kernel_rfl
theorem en151 : entT Try.prog 151 = true := by kernel_rfl
theorem en152 : entT Try.prog 152 = true := by kernel_rfl
theorem en153 : entT Try.prog 153 = true := by kernel_rfl
theorem en154 : entT Try.prog 154 = true := by kernel_rfl
theorem en155 : entT Try.prog 155 = true := by kernel_rfl
theorem en156 : entT Try.prog 156 = true := by kernel_rfl
theorem en157 : entT Try.prog 157 = true := by kernel_rfl
theorem en158 : entT Try.prog 158 = true := by kernel_rfl
theorem en159 : entT Try.prog 159 = true := by kernel_rfl
theorem en16 : entT Try.prog 16 = true := by kernel_rfl
theorem en160 : entT Try.prog 160 = true := by kernel_rfl
theorem en161 : entT Try.prog 161 = true := by kernel_rfl
theorem en162 : entT Try.prog 162 = true := by kernel_rfl
theorem en163 : entT Try.prog 163 = true := by kernel_rfl
theorem en164 : entT Try.prog 164 = true := by kernel_rfl
theorem en165 : entT Try.prog 165 = true := by kernel_rfl
theorem en17 : entT Try.prog 17 = true := by kernel_rfl
theorem en18 : entT Try.prog 18 = true := by kernel_rfl
theorem en19 : entT Try.prog 19 = true := by kernel_rfl
theorem en2 : entT Try.prog 2 = true := by kernel_rfl
theorem en20 : entT Try.prog 20 = true := by kernel_rfl
theorem en21 : entT Try.prog 21 = true := by kernel_rfl
theorem en22 : entT Try.prog 22 = true := by kernel_rfl
theorem en23 : entT Try.prog 23 = true := by kernel_rfl
theorem en24 : entT Try.prog 24 = true := by kernel_rfl
theorem en25 : entT Try.prog 25 = true := by kernel_rfl
theorem en26 : entT Try.prog 26 = true := by kernel_rfl
theorem en27 : entT Try.prog 27 = true := by kernel_rfl
theorem en28 : entT Try.prog 28 = true := by kernel_rfl
theorem en29 : entT Try.prog 29 = true := by kernel_rfl
theorem en3 : entT Try.prog 3 = true := by kernel_rfl
theorem en30 : entT Try.prog 30 = true := by kernel_rfl
theorem en31 : entT Try.prog 31 = true := by kernel_rfl
theorem en32 : entT Try.prog 32 = true := by kernel_rfl
theorem en33 : entT Try.prog 33 = true := by kernel_rfl
theorem en34 : entT Try.prog 34 = true := by kernel_rfl
theorem en35 : entT Try.prog 35 = true := by kernel_rfl
theorem en36 : entT Try.prog 36 = true := by kernel_rfl
theorem en37 : entT Try.prog 37 = true := by kernel_rfl
theorem en38 : entT Try.prog 38 = true := by kernel_rfl
theorem en39 : entT Try.prog 39 = true := by kernel_rfl
theorem en4 : entT Try.prog 4 = true := by kernel_rfl
theorem en40 : entT Try.prog 40 = true := by kernel_rfl
theorem en41 : entT Try.prog 41 = true := by kernel_rfl
theorem en42 : entT Try.prog 42 = true := by kernel_rfl
theorem en43 : entT Try.prog 43 = true := by kernel_rfl
theorem en44 : entT Try.prog 44 = true := by kernel_rfl
theorem en45 : entT Try.prog 45 = true := by kernel_rfl
theorem en46 : entT Try.prog 46 = true := by kernel_rfl
theorem en47 : entT Try.prog 47 = true := by kernel_rfl
theorem en48 : entT Try.prog 48 = true := by kernel_rfl
theorem en49 : entT Try.prog 49 = true := by kernel_rfl
theorem en5 : entT Try.prog 5 = true := by kernel_rfl
theorem en50 : entT Try.prog 50 = true := by kernel_rfl
theorem en51 : entT Try.prog 51 = true := by kernel_rfl
theorem en52 : entT Try.prog 52 = true := by kernel_rfl
theorem en53 : entT Try.prog 53 = true := by kernel_rfl
theorem en54 : entT Try.prog 54 = true := by kernel_rfl
theorem en55 : entT Try.prog 55 = true := by kernel_rfl
theorem en56 : entT Try.prog 56 = true := by kernel_rfl
theorem en57 : entT Try.prog 57 = true := by kernel_rfl
theorem en58 : entT Try.prog 58 = true := by kernel_rfl
theorem en59 : entT Try.prog 59 = true := by kernel_rfl
theorem en6 : entT Try.prog 6 = true := by kernel_rfl
theorem en60 : entT Try.prog 60 = true := by kernel_rfl
theorem en61 : entT Try.prog 61 = true := by kernel_rfl
theorem en62 : entT Try.prog 62 = true := by kernel_rfl
theorem en63 : entT Try.prog 63 = true := by kernel_rfl
theorem en64 : entT Try.prog 64 = true := by kernel_rfl
theorem en65 : entT Try.prog 65 = true := by kernel_rfl
theorem en66 : entT Try.prog 66 = true := by kernel_rfl
theorem en67 : entT Try.prog 67 = true := by kernel_rfl
theorem en68 : entT Try.prog 68 = true := by kernel_rfl
theorem en69 : entT Try.prog 69 = true := by kernel_rfl
theorem en7 : entT Try.prog 7 = true := by kernel_rfl
theorem en70 : entT Try.prog 70 = true := by kernel_rfl
theorem en71 : entT Try.prog 71 = true := by kernel_rfl
theorem en72 : entT Try.prog 72 = true := by kernel_rfl
theorem en73 : entT Try.prog 73 = true := by kernel_rfl
theorem en74 : entT Try.prog 74 = true := by kernel_rfl
theorem en75 : entT Try.prog 75 = true := by kernel_rfl
theorem en76 : entT Try.prog 76 = true := by kernel_rfl
theorem en77 : entT Try.prog 77 = true := by kernel_rfl
theorem en78 : entT Try.prog 78 = true := by kernel_rfl
theorem en79 : entT Try.prog 79 = true := by kernel_rfl
theorem en8 : entT Try.prog 8 = true := by kernel_rfl
theorem en80 : entT Try.prog 80 = true := by kernel_rfl
theorem en81 : entT Try.prog 81 = true := by kernel_rfl
theorem en82 : entT Try.prog 82 = true := by kernel_rfl
theorem en83 : entT Try.prog 83 = true := by kernel_rfl
theorem en84 : entT Try.prog 84 = true := by kernel_rfl
theorem en85 : entT Try.prog 85 = true := by kernel_rfl
theorem en86 : entT Try.prog 86 = true := by kernel_rfl
theorem en87 : entT Try.prog 87 = true := by kernel_rfl
theorem en88 : entT Try.prog 88 = true := by kernel_rfl
theorem en89 : entT Try.prog 89 = true := by kernel_rfl
theorem en9 : entT Try.prog 9 = true := by kernel_rfl
theorem en90 : entT Try.prog 90 = true := by kernel_rfl
theorem en91 : entT Try.prog 91 = true := by kernel_rfl
theorem en92 : entT Try.prog 92 = true := by kernel_rfl
theorem en93 : entT Try.prog 93 = true := by kernel_rfl
theorem en94 : entT Try.prog 94 = true := by kernel_rfl
theorem en95 : entT Try.prog 95 = true := by kernel_rfl
theorem en96 : entT Try.prog 96 = true := by kernel_rfl
theorem en97 : entT Try.prog 97 = true := by kernel_rfl
theorem en98 : entT Try.prog 98 = true := by kernel_rfl
theorem en99 : entT Try.prog 99 = true := by kernel_rfl
theorem fi126_0 : fieldT Try.prog 126 0 0 = true := by kernel_rfl
theorem fi126_1 : fieldT Try.prog 126 1 1 = true := by kernel_rfl
theorem fi149_0 : fieldT Try.prog 149 0 0 = true := by kernel_rfl
theorem fi149_1 : fieldT Try.prog 149 1 1 = true := by kernel_rfl
theorem fi149_2 : fieldT Try.prog 149 2 2 = true := by kernel_rfl
theorem fi25_0 : fieldT Try.prog 25 0 0 = true := by kernel_rfl
theorem fi25_1 : fieldT Try.prog 25 1 1 = true := by kernel_rfl
theorem fi25_2 : fieldT Try.prog 25 2 2 = true := by kernel_rfl
theorem fi25_3 : fieldT Try.prog 25 3 3 = true := by kernel_rfl
theorem fi25_4 : fieldT Try.prog 25 4 4 = true := by kernel_rfl
theorem fi31_0 : fieldT Try.prog 31 0 0 = true := by kernel_rfl
theorem fi31_1 : fieldT Try.prog 31 1 1 = true := by kernel_rfl
theorem fi31_2 : fieldT Try.prog 31 2 2 = true := by kernel_rfl
theorem fi31_3 : fieldT Try.prog 31 3 3 = true := by kernel_rfl
theorem fi31_4 : fieldT Try.prog 31 4 4 = true := by kernel_rfl
theorem fi52_0 : fieldT Try.prog 52 0 0 = true := by kernel_rfl
theorem fi52_1 : fieldT Try.prog 52 1 1 = true := by kernel_rfl
theorem fi52_2 : fieldT Try.prog 52 2 2 = true := by kernel_rfl
theorem fi81_0 : fieldT Try.prog 81 0 0 = true := by kernel_rfl
theorem fi81_1 : fieldT Try.prog 81 1 1 = true := by kernel_rfl
theorem fi81_2 : fieldT Try.prog 81 2 6 = true := by kernel_rfl
theorem fi81_3 : fieldT Try.prog 81 3 7 = true := by kernel_rfl
theorem fi81_4 : fieldT Try.prog 81 4 12 = true := by kernel_rfl
theorem fi84_0 : fieldT Try.prog 84 0 0 = true := by kernel_rfl
theorem fi84_1 : fieldT Try.prog 84 1 1 = true := by kernel_rfl
theorem fi84_2 : fieldT Try.prog 84 2 6 = true := by kernel_rfl
theorem fi84_3 : fieldT Try.prog 84 3 7 = true := by kernel_rfl
theorem fi84_4 : fieldT Try.prog 84 4 12 = true := by kernel_rfl
theorem on1 : oneT Try.prog 1 = true := by kernel_rfl
theorem on10 : oneT Try.prog 10 = true := by kernel_rfl
theorem on100 : oneT Try.prog 100 = true := by kernel_rfl
theorem on101 : oneT Try.prog 101 = true := by kernel_rfl
theorem on102 : oneT Try.prog 102 = true := by kernel_rfl
theorem on103 : oneT Try.prog 103 = true := by kernel_rfl
theorem on104 : oneT Try.prog 104 = true := by kernel_rfl
theorem on105 : oneT Try.prog 105 = true := by kernel_rfl
theorem on106 : oneT Try.prog 106 = true := by kernel_rfl
theorem on107 : oneT Try.prog 107 = true := by kernel_rfl
theorem on108 : oneT Try.prog 108 = true := by kernel_rfl
theorem on109 : oneT Try.prog 109 = true := by kernel_rfl
theorem on11 : oneT Try.prog 11 = true := by kernel_rfl
theorem on110 : oneT Try.prog 110 = true := by kernel_rfl
theorem on111 : oneT Try.prog 111 = true := by kernel_rfl
theorem on112 : oneT Try.prog 112 = true := by kernel_rfl
theorem on113 : oneT Try.prog 113 = true := by kernel_rfl
theorem on114 : oneT Try.prog 114 = true := by kernel_rfl
theorem on115 : oneT Try.prog 115 = true := by kernel_rfl
theorem on116 : oneT Try.prog 116 = true := by kernel_rfl
theorem on117 : oneT Try.prog 117 = true := by kernel_rfl
theorem on118 : oneT Try.prog 118 = true := by kernel_rfl
theorem on119 : oneT Try.prog 119 = true := by kernel_rfl
theorem on12 : oneT Try.prog 12 = true := by kernel_rfl
theorem on120 : oneT Try.prog 120 = true := by kernel_rfl
theorem on121 : oneT Try.prog 121 = true := by kernel_rfl
theorem on122 : oneT Try.prog 122 = true := by kernel_rfl
theorem on123 : oneT Try.prog 123 = true := by kernel_rfl
theorem on124 : oneT Try.prog 124 = true := by kernel_rfl
theorem on127 : oneT Try.prog 127 = true := by kernel_rfl
theorem on128 : oneT Try.prog 128 = true := by kernel_rfl
theorem on129 : oneT Try.prog 129 = true := by kernel_rfl
theorem on130 : oneT Try.prog 130 = true := by kernel_rfl
theorem on131 : oneT Try.prog 131 = true := by kernel_rfl
theorem on132 : oneT Try.prog 132 = true := by kernel_rfl
theorem on133 : oneT Try.prog 133 = true := by kernel_rfl
theorem on134 : oneT Try.prog 134 = true := by kernel_rfl
theorem on135 : oneT Try.prog 135 = true := by kernel_rfl
theorem on136 : oneT Try.prog 136 = true := by kernel_rfl
theorem on137 : oneT Try.prog 137 = true := by kernel_rfl
theorem on138 : oneT Try.prog 138 = true := by kernel_rfl
theorem on139 : oneT Try.prog 139 = true := by kernel_rfl
theorem on140 : oneT Try.prog 140 = true := by kernel_rfl
theorem on142 : oneT Try.prog 142 = true := by kernel_rfl
theorem on143 : oneT Try.prog 143 = true := by kernel_rfl
theorem on144 : oneT Try.prog 144 = true := by kernel_rfl
theorem on145 : oneT Try.prog 145 = true := by kernel_rfl
theorem on146 : oneT Try.prog 146 = true := by kernel_rfl
theorem on147 : oneT Try.prog 147 = true := by kernel_rfl
theorem on148 : oneT Try.prog 148 = true := by kernel_rfl
theorem on15 : oneT Try.prog 15 = true := by kernel_rfl
theorem on150 : oneT Try.prog 150 = true := by kernel_rfl
theorem on151 : oneT Try.prog 151 = true := by kernel_rfl
theorem on152 : oneT Try.prog 152 = true := by kernel_rfl
theorem on153 : oneT Try.prog 153 = true := by kernel_rfl
theorem on154 : oneT Try.prog 154 = true := by kernel_rfl
theorem on155 : oneT Try.prog 155 = true := by kernel_rfl
theorem on156 : oneT Try.prog 156 = true := by kernel_rfl
theorem on157 : oneT Try.prog 157 = true := by kernel_rfl
theorem on158 : oneT Try.prog 158 = true := by kernel_rfl
theorem on159 : oneT Try.prog 159 = true := by kernel_rfl
theorem on16 : oneT Try.prog 16 = true := by kernel_rfl
theorem on160 : oneT Try.prog 160 = true := by kernel_rfl
theorem on161 : oneT Try.prog 161 = true := by kernel_rfl
theorem on167 : oneT Try.prog 167 = true := by kernel_rfl
theorem on168 : oneT Try.prog 168 = true := by kernel_rfl
theorem on169 : oneT Try.prog 169 = true := by kernel_rfl
theorem on17 : oneT Try.prog 17 = true := by kernel_rfl
theorem on170 : oneT Try.prog 170 = true := by kernel_rfl
theorem on171 : oneT Try.prog 171 = true := by kernel_rfl
theorem on172 : oneT Try.prog 172 = true := by kernel_rfl
theorem on173 : oneT Try.prog 173 = true := by kernel_rfl
theorem on174 : oneT Try.prog 174 = true := by kernel_rfl
theorem on177 : oneT Try.prog 177 = true := by kernel_rfl
theorem on179 : oneT Try.prog 179 = true := by kernel_rfl
theorem on2 : oneT Try.prog 2 = true := by kernel_rfl
theorem on21 : oneT Try.prog 21 = true := by kernel_rfl
theorem on22 : oneT Try.prog 22 = true := by kernel_rfl
theorem on23 : oneT Try.prog 23 = true := by kernel_rfl
theorem on26 : oneT Try.prog 26 = true := by kernel_rfl
theorem on27 : oneT Try.prog 27 = true := by kernel_rfl
theorem on28 : oneT Try.prog 28 = true := by kernel_rfl
theorem on29 : oneT Try.prog 29 = true := by kernel_rfl
theorem on3 : oneT Try.prog 3 = true := by kernel_rfl
theorem on32 : oneT Try.prog 32 = true := by kernel_rfl
theorem on33 : oneT Try.prog 33 = true := by kernel_rfl
theorem on34 : oneT Try.prog 34 = true := by kernel_rfl
theorem on35 : oneT Try.prog 35 = true := by kernel_rfl
theorem on36 : oneT Try.prog 36 = true := by kernel_rfl
theorem on37 : oneT Try.prog 37 = true := by kernel_rfl
theorem on38 : oneT Try.prog 38 = true := by kernel_rfl
theorem on39 : oneT Try.prog 39 = true := by kernel_rfl
theorem on4 : oneT Try.prog 4 = true := by kernel_rfl
theorem on40 : oneT Try.prog 40 = true := by kernel_rfl
theorem on41 : oneT Try.prog 41 = true := by kernel_rfl
theorem on42 : oneT Try.prog 42 = true := by kernel_rfl
theorem on43 : oneT Try.prog 43 = true := by kernel_rfl
theorem on44 : oneT Try.prog 44 = true := by kernel_rfl
theorem on45 : oneT Try.prog 45 = true := by kernel_rfl
theorem on46 : oneT Try.prog 46 = true := by kernel_rfl
theorem on48 : oneT Try.prog 48 = true := by kernel_rfl
theorem on5 : oneT Try.prog 5 = true := by kernel_rfl
theorem on50 : oneT Try.prog 50 = true := by kernel_rfl
theorem on53 : oneT Try.prog 53 = true := by kernel_rfl
theorem on54 : oneT Try.prog 54 = true := by kernel_rfl
theorem on55 : oneT Try.prog 55 = true := by kernel_rfl
theorem on57 : oneT Try.prog 57 = true := by kernel_rfl
theorem on59 : oneT Try.prog 59 = true := by kernel_rfl
theorem on6 : oneT Try.prog 6 = true := by kernel_rfl
theorem on60 : oneT Try.prog 60 = true := by kernel_rfl
theorem on61 : oneT Try.prog 61 = true := by kernel_rfl
theorem on62 : oneT Try.prog 62 = true := by kernel_rfl
theorem on63 : oneT Try.prog 63 = true := by kernel_rfl
theorem on64 : oneT Try.prog 64 = true := by kernel_rfl
theorem on65 : oneT Try.prog 65 = true := by kernel_rfl
theorem on66 : oneT Try.prog 66 = true := by kernel_rfl
theorem on67 : oneT Try.prog 67 = true := by kernel_rfl
theorem on68 : oneT Try.prog 68 = true := by kernel_rfl
theorem on69 : oneT Try.prog 69 = true := by kernel_rfl
theorem on70 : oneT Try.prog 70 = true := by kernel_rfl
theorem on71 : oneT Try.prog 71 = true := by kernel_rfl
theorem on72 : oneT Try.prog 72 = true := by kernel_rfl
theorem on73 : oneT Try.prog 73 = true := by kernel_rfl
theorem on74 : oneT Try.prog 74 = true := by kernel_rfl
theorem on75 : oneT Try.prog 75 = true := by kernel_rfl
theorem on76 : oneT Try.prog 76 = true := by kernel_rfl
theorem on77 : oneT Try.prog 77 = true := by kernel_rfl
theorem on78 : oneT Try.prog 78 = true := by kernel_rfl
theorem on79 : oneT Try.prog 79 = true := by kernel_rfl
theorem on82 : oneT Try.prog 82 = true := by kernel_rfl
theorem on85 : oneT Try.prog 85 = true := by kernel_rfl
theorem on86 : oneT Try.prog 86 = true := by kernel_rfl
theorem on87 : oneT Try.prog 87 = true := by kernel_rfl
theorem on88 : oneT Try.prog 88 = true := by kernel_rfl
theorem on89 : oneT Try.prog 89 = true := by kernel_rfl
theorem on9 : oneT Try.prog 9 = true := by kernel_rfl
theorem on90 : oneT Try.prog 90 = true := by kernel_rfl
theorem on91 : oneT Try.prog 91 = true := by kernel_rfl
theorem on92 : oneT Try.prog 92 = true := by kernel_rfl
theorem on93 : oneT Try.prog 93 = true := by kernel_rfl
theorem on94 : oneT Try.prog 94 = true := by kernel_rfl
theorem on95 : oneT Try.prog 95 = true := by kernel_rfl
theorem on96 : oneT Try.prog 96 = true := by kernel_rfl
theorem on97 : oneT Try.prog 97 = true := by kernel_rfl
theorem on98 : oneT Try.prog 98 = true := by kernel_rfl
theorem on99 : oneT Try.prog 99 = true := by kernel_rfl
theorem sl128 : sliceT Try.prog 128 3 1 8 = true := by kernel_rfl
theorem sl139 : sliceT Try.prog 139 29 1 24 = true := by kernel_rfl
theorem sl22 : sliceT Try.prog 22 9 1 16 = true := by kernel_rfl
theorem sl23 : sliceT Try.prog 23 25 5 80 = true := by kernel_rfl
theorem sl27 : sliceT Try.prog 27 46 1 24 = true := by kernel_rfl
theorem sl29 : sliceT Try.prog 29 31 5 80 = true := by kernel_rfl
theorem sl38 : sliceT Try.prog 38 81 13 200 = true := by kernel_rfl
theorem sl41 : sliceT Try.prog 41 84 13 200 = true := by kernel_rfl
theorem sl45 : sliceT Try.prog 45 5 1 1 = true := by kernel_rfl
theorem sl46 : sliceT Try.prog 46 52 3 32 = true := by kernel_rfl
theorem sl79 : sliceT Try.prog 79 149 3 32 = true := by kernel_rfl
theorem st10 : strT Try.prog 10 = true := by kernel_rfl
theorem st11 : strT Try.prog 11 = true := by kernel_rfl
theorem st9 : strT Try.prog 9 = true := by kernel_rfl
theorem sz1 : sizeT Try.prog 1 1 = true := by kernel_rfl
theorem sz10 : sizeT Try.prog 10 1 = true := by kernel_rfl
theorem sz100 : sizeT Try.prog 100 1 = true := by kernel_rfl
theorem sz101 : sizeT Try.prog 101 1 = true := by kernel_rfl
theorem sz102 : sizeT Try.prog 102 1 = true := by kernel_rfl
theorem sz103 : sizeT Try.prog 103 1 = true := by kernel_rfl
theorem sz104 : sizeT Try.prog 104 1 = true := by kernel_rfl
theorem sz105 : sizeT Try.prog 105 1 = true := by kernel_rfl
theorem sz106 : sizeT Try.prog 106 1 = true := by kernel_rfl
theorem sz107 : sizeT Try.prog 107 1 = true := by kernel_rfl
theorem sz108 : sizeT Try.prog 108 1 = true := by kernel_rfl
theorem sz109 : sizeT Try.prog 109 1 = true := by kernel_rfl
theorem sz11 : sizeT Try.prog 11 1 = true := by kernel_rfl
theorem sz110 : sizeT Try.prog 110 1 = true := by kernel_rfl
theorem sz111 : sizeT Try.prog 111 1 = true := by kernel_rfl
theorem sz112 : sizeT Try.prog 112 1 = true := by kernel_rfl
theorem sz113 : sizeT Try.prog 113 1 = true := by kernel_rfl
theorem sz114 : sizeT Try.prog 114 1 = true := by kernel_rfl
theorem sz115 : sizeT Try.prog 115 1 = true := by kernel_rfl
theorem sz116 : sizeT Try.prog 116 1 = true := by kernel_rfl
theorem sz117 : sizeT Try.prog 117 1 = true := by kernel_rfl
theorem sz118 : sizeT Try.prog 118 1 = true := by kernel_rfl
theorem sz119 : sizeT Try.prog 119 1 = true := by kernel_rfl
theorem sz12 : sizeT Try.prog 12 1 = true := by kernel_rfl
theorem sz120 : sizeT Try.prog 120 1 = true := by kernel_rfl
theorem sz121 : sizeT Try.prog 121 1 = true := by kernel_rfl
theorem sz122 : sizeT Try.prog 122 1 = true := by kernel_rfl
theorem sz123 : sizeT Try.prog 123 1 = true := by kernel_rfl
theorem sz124 : sizeT Try.prog 124 1 = true := by kernel_rfl
theorem sz126 : sizeT Try.prog 126 2 = true := by kernel_rfl
theorem sz127 : sizeT Try.prog 127 1 = true := by kernel_rfl
theorem sz128 : sizeT Try.prog 128 1 = true := by kernel_rfl
theorem sz129 : sizeT Try.prog 129 1 = true := by kernel_rfl
theorem sz130 : sizeT Try.prog 130 1 = true := by kernel_rfl
theorem sz131 : sizeT Try.prog 131 1 = true := by kernel_rfl
theorem sz132 : sizeT Try.prog 132 1 = true := by kernel_rfl
theorem sz133 : sizeT Try.prog 133 1 = true := by kernel_rfl
theorem sz134 : sizeT Try.prog 134 1 = true := by kernel_rfl
theorem sz135 : sizeT Try.prog 135 1 = true := by kernel_rfl
theorem sz136 : sizeT Try.prog 136 1 = true := by kernel_rfl
theorem sz137 : sizeT Try.prog 137 1 = true := by kernel_rfl
theorem sz138 : sizeT Try.prog 138 1 = true := by kernel_rfl
theorem sz139 : sizeT Try.prog 139 1 = true := by kernel_rfl
theorem sz140 : sizeT Try.prog 140 1 = true := by kernel_rfl
theorem sz142 : sizeT Try.prog 142 1 = true := by kernel_rfl
theorem sz143 : sizeT Try.prog 143 1 = true := by kernel_rfl
theorem sz144 : sizeT Try.prog 144 1 = true := by kernel_rfl
theorem sz145 : sizeT Try.prog 145 1 = true := by kernel_rfl
theorem sz146 : sizeT Try.prog 146 1 = true := by kernel_rfl
theorem sz147 : sizeT Try.prog 147 1 = true := by kernel_rfl
theorem sz148 : sizeT Try.prog 148 1 = true := by kernel_rfl
theorem sz149 : sizeT Try.prog 149 3 = true := by kernel_rfl
theorem sz15 : sizeT Try.prog 15 1 = true := by kernel_rfl
theorem sz150 : sizeT Try.prog 150 1 = true := by kernel_rfl
theorem sz151 : sizeT Try.prog 151 1 = true := by kernel_rfl
theorem sz152 : sizeT Try.prog 152 1 = true := by kernel_rfl
theorem sz153 : sizeT Try.prog 153 1 = true := by kernel_rfl
theorem sz154 : sizeT Try.prog 154 1 = true := by kernel_rfl
theorem sz155 : sizeT Try.prog 155 1 = true := by kernel_rfl
theorem sz156 : sizeT Try.prog 156 1 = true := by kernel_rfl
theorem sz157 : sizeT Try.prog 157 1 = true := by kernel_rfl
theorem sz158 : sizeT Try.prog 158 1 = true := by kernel_rfl
theorem sz159 : sizeT Try.prog 159 1 = true := by kernel_rfl
theorem sz16 : sizeT Try.prog 16 1 = true := by kernel_rfl
theorem sz160 : sizeT Try.prog 160 1 = true := by kernel_rfl
theorem sz161 : sizeT Try.prog 161 1 = true := by kernel_rfl
theorem sz167 : sizeT Try.prog 167 1 = true := by kernel_rfl
theorem sz168 : sizeT Try.prog 168 1 = true := by kernel_rfl
theorem sz169 : sizeT Try.prog 169 1 = true := by kernel_rfl
theorem sz17 : sizeT Try.prog 17 1 = true := by kernel_rfl
theorem sz170 : sizeT Try.prog 170 1 = true := by kernel_rfl
theorem sz171 : sizeT Try.prog 171 1 = true := by kernel_rfl
theorem sz172 : sizeT Try.prog 172 1 = true := by kernel_rfl
theorem sz173 : sizeT Try.prog 173 1 = true := by kernel_rfl
theorem sz174 : sizeT Try.prog 174 1 = true := by kernel_rfl
theorem sz177 : sizeT Try.prog 177 1 = true := by kernel_rfl
theorem sz179 : sizeT Try.prog 179 1 = true := by kernel_rfl
theorem sz2 : sizeT Try.prog 2 1 = true := by kernel_rfl
theorem sz21 : sizeT Try.prog 21 1 = true := by kernel_rfl
theorem sz22 : sizeT Try.prog 22 1 = true := by kernel_rfl
theorem sz23 : sizeT Try.prog 23 1 = true := by kernel_rfl
theorem sz25 : sizeT Try.prog 25 5 = true := by kernel_rfl
theorem sz26 : sizeT Try.prog 26 1 = true := by kernel_rfl
theorem sz27 : sizeT Try.prog 27 1 = true := by kernel_rfl
theorem sz28 : sizeT Try.prog 28 1 = true := by kernel_rfl
theorem sz29 : sizeT Try.prog 29 1 = true := by kernel_rfl
theorem sz3 : sizeT Try.prog 3 1 = true := by kernel_rfl
theorem sz31 : sizeT Try.prog 31 5 = true := by kernel_rfl
theorem sz32 : sizeT Try.prog 32 1 = true := by kernel_rfl
theorem sz33 : sizeT Try.prog 33 1 = true := by kernel_rfl
theorem sz34 : sizeT Try.prog 34 1 = true := by kernel_rfl
theorem sz35 : sizeT Try.prog 35 1 = true := by kernel_rfl
theorem sz36 : sizeT Try.prog 36 1 = true := by kernel_rfl
theorem sz37 : sizeT Try.prog 37 1 = true := by kernel_rfl
theorem sz38 : sizeT Try.prog 38 1 = true := by kernel_rfl
theorem sz39 : sizeT Try.prog 39 1 = true := by kernel_rfl
theorem sz4 : sizeT Try.prog 4 1 = true := by kernel_rfl
theorem sz40 : sizeT Try.prog 40 1 = true := by kernel_rfl
theorem sz41 : sizeT Try.prog 41 1 = true := by kernel_rfl
theorem sz42 : sizeT Try.prog 42 1 = true := by kernel_rfl
theorem sz43 : sizeT Try.prog 43 1 = true := by kernel_rfl
theorem sz44 : sizeT Try.prog 44 1 = true := by kernel_rfl
theorem sz45 : sizeT Try.prog 45 1 = true := by kernel_rfl
theorem sz46 : sizeT Try.prog 46 1 = true := by kernel_rfl
theorem sz48 : sizeT Try.prog 48 1 = true := by kernel_rfl
theorem sz5 : sizeT Try.prog 5 1 = true := by kernel_rfl
theorem sz50 : sizeT Try.prog 50 1 = true := by kernel_rfl
theorem sz52 : sizeT Try.prog 52 3 = true := by kernel_rfl
theorem sz53 : sizeT Try.prog 53 1 = true := by kernel_rfl
theorem sz54 : sizeT Try.prog 54 1 = true := by kernel_rfl
theorem sz55 : sizeT Try.prog 55 1 = true := by kernel_rfl
theorem sz57 : sizeT Try.prog 57 1 = true := by kernel_rfl
theorem sz59 : sizeT Try.prog 59 1 = true := by kernel_rfl
theorem sz6 : sizeT Try.prog 6 1 = true := by kernel_rfl
theorem sz60 : sizeT Try.prog 60 1 = true := by kernel_rfl
theorem sz61 : sizeT Try.prog 61 1 = true := by kernel_rfl
theorem sz62 : sizeT Try.prog 62 1 = true := by kernel_rfl
theorem sz63 : sizeT Try.prog 63 1 = true := by kernel_rfl
theorem sz64 : sizeT Try.prog 64 1 = true := by kernel_rfl
theorem sz65 : sizeT Try.prog 65 1 = true := by kernel_rfl
theorem sz66 : sizeT Try.prog 66 1 = true := by kernel_rfl
theorem sz67 : sizeT Try.prog 67 1 = true := by kernel_rfl
theorem sz68 : sizeT Try.prog 68 1 = true := by kernel_rfl
theorem sz69 : sizeT Try.prog 69 1 = true := by kernel_rfl
theorem sz70 : sizeT Try.prog 70 1 = true := by kernel_rfl
theorem sz71 : sizeT Try.prog 71 1 = true := by kernel_rfl
theorem sz72 : sizeT Try.prog 72 1 = true := by kernel_rfl
theorem sz73 : sizeT Try.prog 73 1 = true := by kernel_rfl
theorem sz74 : sizeT Try.prog 74 1 = true := by kernel_rfl
theorem sz75 : sizeT Try.prog 75 1 = true := by kernel_rfl
theorem sz76 : sizeT Try.prog 76 1 = true := by kernel_rfl
theorem sz77 : sizeT Try.prog 77 1 = true := by kernel_rfl
theorem sz78 : sizeT Try.prog 78 1 = true := by kernel_rfl
theorem sz79 : sizeT Try.prog 79 1 = true := by kernel_rfl
theorem sz81 : sizeT Try.prog 81 13 = true := by kernel_rfl
theorem sz82 : sizeT Try.prog 82 1 = true := by kernel_rfl
theorem sz84 : sizeT Try.prog 84 13 = true := by kernel_rfl
theorem sz85 : sizeT Try.prog 85 1 = true := by kernel_rfl
theorem sz86 : sizeT Try.prog 86 1 = true := by kernel_rfl
theorem sz87 : sizeT Try.prog 87 1 = true := by kernel_rfl
theorem sz88 : sizeT Try.prog 88 1 = true := by kernel_rfl
theorem sz89 : sizeT Try.prog 89 1 = true := by kernel_rfl
theorem sz9 : sizeT Try.prog 9 1 = true := by kernel_rfl
theorem sz90 : sizeT Try.prog 90 1 = true := by kernel_rfl
theorem sz91 : sizeT Try.prog 91 1 = true := by kernel_rfl
theorem sz92 : sizeT Try.prog 92 1 = true := by kernel_rfl
theorem sz93 : sizeT Try.prog 93 1 = true := by kernel_rfl
theorem sz94 : sizeT Try.prog 94 1 = true := by kernel_rfl
theorem sz95 : sizeT Try.prog 95 1 = true := by kernel_rfl
theorem sz96 : sizeT Try.prog 96 1 = true := by kernel_rfl
theorem sz97 : sizeT Try.prog 97 1 = true := by kernel_rfl
theorem sz98 : sizeT Try.prog 98 1 = true := by kernel_rfl
theorem sz99 : sizeT Try.prog 99 1 = true := by kernel_rfl
theorem zero10 : (Try.prog.info? 10).bind (·.zero) = some (.string ⟨#[]⟩) := by kernel_rfl
theorem zero11 : (Try.prog.info? 11).bind (·.zero) = some (.string ⟨#[]⟩) := by kernel_rfl
theorem zero117 : (Try.prog.info? 117).bind (·.zero) = some (.pointer none) := by kernel_rfl
theorem zero12 : (Try.prog.info? 12).bind (·.zero) = some (.int .u64 0) := by kernel_rfl
theorem zero125 : (Try.prog.info? 125).bind (·.zero) = some (.agg #[.slice none 0 0, .int .i64 0]) := by kernel_rfl
theorem zero126 : (Try.prog.info? 126).bind (·.zero) = some (.agg #[.slice none 0 0, .int .i64 0]) := by kernel_rfl
theorem zero128 : (Try.prog.info? 128).bind (·.zero) = some (.slice none 0 0) := by kernel_rfl
theorem zero13 : (Try.prog.info? 13).bind (·.zero) = some (.agg #[.string ⟨#[]⟩, .int .u64 0]) := by kernel_rfl
theorem zero139 : (Try.prog.info? 139).bind (·.zero) = some (.slice none 0 0) := by kernel_rfl
theorem zero14 : (Try.prog.info? 14).bind (·.zero) = some (.agg #[.string ⟨#[]⟩, .int .u64 0]) := by kernel_rfl
theorem zero149 : (Try.prog.info? 149).bind (·.zero) = some (.agg #[.bool false, .string ⟨#[]⟩, .int .i64 0]) := by kernel_rfl
theorem zero15 : (Try.prog.info? 15).bind (·.zero) = some (.pointer none) := by kernel_rfl
theorem zero152 : (Try.prog.info? 152).bind (·.zero) = some (.int .u64 0) := by kernel_rfl
theorem zero16 : (Try.prog.info? 16).bind (·.zero) = some (.pointer none) := by kernel_rfl
theorem zero162 : (Try.prog.info? 162).bind (·.zero) = some (.agg #[.pointer none, .pointer none, .pointer none, .string ⟨#[]⟩]) := by kernel_rfl
theorem zero163 : (Try.prog.info? 163).bind (·.zero) = some (.agg #[.pointer none, .pointer none, .pointer none, .string ⟨#[]⟩]) := by kernel_rfl
theorem zero168 : (Try.prog.info? 168).bind (·.zero) = some (.int .u32 0) := by kernel_rfl
theorem zero169 : (Try.prog.info? 169).bind (·.zero) = some (.int .u8 0) := by kernel_rfl
theorem zero17 : (Try.prog.info? 17).bind (·.zero) = some (.pointer none) := by kernel_rfl
theorem zero170 : (Try.prog.info? 170).bind (·.zero) = some (.int .u8 0) := by kernel_rfl
theorem zero172 : (Try.prog.info? 172).bind (·.zero) = some (.pointer none) := by kernel_rfl
theorem zero173 : (Try.prog.info? 173).bind (·.zero) = some (.int .i32 0) := by kernel_rfl
theorem zero174 : (Try.prog.info? 174).bind (·.zero) = some (.int .i32 0) := by kernel_rfl
theorem zero178 : (Try.prog.info? 178).bind (·.zero) = some (.pointer none) := by kernel_rfl
theorem zero179 : (Try.prog.info? 179).bind (·.zero) = some (.int .u64 0) := by kernel_rfl
theorem zero18 : (Try.prog.info? 18).bind (·.zero) = some (.agg #[.pointer none]) := by kernel_rfl
theorem zero19 : (Try.prog.info? 19).bind (·.zero) = some (.agg #[.pointer none]) := by kernel_rfl
theorem zero2 : (Try.prog.info? 2).bind (·.zero) = some (.int .i64 0) := by kernel_rfl
theorem zero21 : (Try.prog.info? 21).bind (·.zero) = some (.int .i32 0) := by kernel_rfl
theorem zero22 : (Try.prog.info? 22).bind (·.zero) = some (.slice none 0 0) := by kernel_rfl
theorem zero23 : (Try.prog.info? 23).bind (·.zero) = some (.slice none 0 0) := by kernel_rfl
theorem zero24 : (Try.prog.info? 24).bind (·.zero) = some (.agg #[.int .i64 0, .int .i64 0, .string ⟨#[]⟩, .slice none 0 0, .slice none 0 0]) := by kernel_rfl
theorem zero25 : (Try.prog.info? 25).bind (·.zero) = some (.agg #[.int .i64 0, .int .i64 0, .string ⟨#[]⟩, .slice none 0 0, .slice none 0 0]) := by kernel_rfl
theorem zero27 : (Try.prog.info? 27).bind (·.zero) = some (.slice none 0 0) := by kernel_rfl
theorem zero29 : (Try.prog.info? 29).bind (·.zero) = some (.slice none 0 0) := by kernel_rfl
theorem zero3 : (Try.prog.info? 3).bind (·.zero) = some (.int .i64 0) := by kernel_rfl
theorem zero30 : (Try.prog.info? 30).bind (·.zero) = some (.agg #[.int .i64 0, .int .i64 0, .string ⟨#[]⟩, .slice none 0 0, .slice none 0 0]) := by kernel_rfl
theorem zero31 : (Try.prog.info? 31).bind (·.zero) = some (.agg #[.int .i64 0, .int .i64 0, .string ⟨#[]⟩, .slice none 0 0, .slice none 0 0]) := by kernel_rfl
theorem zero38 : (Try.prog.info? 38).bind (·.zero) = some (.slice none 0 0) := by kernel_rfl
theorem zero4 : (Try.prog.info? 4).bind (·.zero) = some (.bool false) := by kernel_rfl
theorem zero41 : (Try.prog.info? 41).bind (·.zero) = some (.slice none 0 0) := by kernel_rfl
theorem zero45 : (Try.prog.info? 45).bind (·.zero) = some (.slice none 0 0) := by kernel_rfl
theorem zero46 : (Try.prog.info? 46).bind (·.zero) = some (.slice none 0 0) := by kernel_rfl
theorem zero5 : (Try.prog.info? 5).bind (·.zero) = some (.int .u8 0) := by kernel_rfl
theorem zero51 : (Try.prog.info? 51).bind (·.zero) = some (.agg #[.bool false, .string ⟨#[]⟩, .int .i64 0]) := by kernel_rfl
theorem zero52 : (Try.prog.info? 52).bind (·.zero) = some (.agg #[.bool false, .string ⟨#[]⟩, .int .i64 0]) := by kernel_rfl
theorem zero6 : (Try.prog.info? 6).bind (·.zero) = some (.int .u8 0) := by kernel_rfl
theorem zero7 : (Try.prog.info? 7).bind (·.zero) = some (.agg #[.int .i64 0, .int .i64 0, .bool false, .int .u8 0]) := by kernel_rfl
theorem zero79 : (Try.prog.info? 79).bind (·.zero) = some (.slice none 0 0) := by kernel_rfl
theorem zero8 : (Try.prog.info? 8).bind (·.zero) = some (.agg #[.int .i64 0, .int .i64 0, .bool false, .int .u8 0]) := by kernel_rfl
theorem zero80 : (Try.prog.info? 80).bind (·.zero) = some (.agg #[.slice none 0 0, .int .i64 0, .int .i64 0, .string ⟨#[]⟩, .slice none 0 0, .slice none 0 0, .bool false, .int .i64 0, .int .i64 0, .string ⟨#[]⟩, .slice none 0 0, .slice none 0 0, .bool false]) := by kernel_rfl
theorem zero81 : (Try.prog.info? 81).bind (·.zero) = some (.agg #[.slice none 0 0, .int .i64 0, .int .i64 0, .string ⟨#[]⟩, .slice none 0 0, .slice none 0 0, .bool false, .int .i64 0, .int .i64 0, .string ⟨#[]⟩, .slice none 0 0, .slice none 0 0, .bool false]) := by kernel_rfl
theorem zero83 : (Try.prog.info? 83).bind (·.zero) = some (.agg #[.slice none 0 0, .int .i64 0, .int .i64 0, .string ⟨#[]⟩, .slice none 0 0, .slice none 0 0, .bool false, .int .i64 0, .int .i64 0, .string ⟨#[]⟩, .slice none 0 0, .slice none 0 0, .bool false]) := by kernel_rfl
theorem zero84 : (Try.prog.info? 84).bind (·.zero) = some (.agg #[.slice none 0 0, .int .i64 0, .int .i64 0, .string ⟨#[]⟩, .slice none 0 0, .slice none 0 0, .bool false, .int .i64 0, .int .i64 0, .string ⟨#[]⟩, .slice none 0 0, .slice none 0 0, .bool false]) := by kernel_rfl
theorem zero88 : (Try.prog.info? 88).bind (·.zero) = some (.pointer none) := by kernel_rfl
theorem zero9 : (Try.prog.info? 9).bind (·.zero) = some (.string ⟨#[]⟩) := by kernel_rfl
end Go.Proofs.Ytodbflfelimppaa.Eng
