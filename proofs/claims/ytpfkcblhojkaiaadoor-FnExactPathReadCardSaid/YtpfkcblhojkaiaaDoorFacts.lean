/- Closed facts on the seat's program: sizes of types, places of fields, functions that have a body. No statement of the seat is proved here. -/
import Derived.Test.YtpfkcblhojkaiaaDoorMem
namespace Go.Proofs.YtpfkcblhojkaiaaDoor.Eng
theorem ag118 : aggT Tryd.prog 118 2 = true := by kernel_rfl
theorem ag25 : aggT Tryd.prog 25 5 = true := by kernel_rfl
theorem ag28 : aggT Tryd.prog 28 9 = true := by kernel_rfl
theorem ag33 : aggT Tryd.prog 33 5 = true := by kernel_rfl
theorem ag36 : aggT Tryd.prog 36 9 = true := by kernel_rfl
theorem ag61 : aggT Tryd.prog 61 3 = true := by kernel_rfl
theorem ag75 : aggT Tryd.prog 75 3 = true := by kernel_rfl
theorem ag85 : aggT Tryd.prog 85 2 = true := by kernel_rfl
theorem en10 : entT Tryd.prog 10 = true := by kernel_rfl
theorem en100 : entT Tryd.prog 100 = true := by kernel_rfl
theorem en101 : entT Tryd.prog 101 = true := by kernel_rfl
theorem en102 : entT Tryd.prog 102 = true := by kernel_rfl
theorem en103 : entT Tryd.prog 103 = true := by kernel_rfl
theorem en104 : entT Tryd.prog 104 = true := by kernel_rfl
theorem en105 : entT Tryd.prog 105 = true := by kernel_rfl
theorem en106 : entT Tryd.prog 106 = true := by kernel_rfl
theorem en107 : entT Tryd.prog 107 = true := by kernel_rfl
theorem en108 : entT Tryd.prog 108 = true := by kernel_rfl
theorem en109 : entT Tryd.prog 109 = true := by kernel_rfl
theorem en11 : entT Tryd.prog 11 = true := by kernel_rfl
theorem en110 : entT Tryd.prog 110 = true := by kernel_rfl
theorem en111 : entT Tryd.prog 111 = true := by kernel_rfl
theorem en112 : entT Tryd.prog 112 = true := by kernel_rfl
theorem en113 : entT Tryd.prog 113 = true := by kernel_rfl
theorem en114 : entT Tryd.prog 114 = true := by kernel_rfl
theorem en115 : entT Tryd.prog 115 = true := by kernel_rfl
theorem en116 : entT Tryd.prog 116 = true := by kernel_rfl
theorem en117 : entT Tryd.prog 117 = true := by kernel_rfl
theorem en118 : entT Tryd.prog 118 = true := by kernel_rfl
theorem en12 : entT Tryd.prog 12 = true := by kernel_rfl
theorem en120 : entT Tryd.prog 120 = true := by kernel_rfl
theorem en121 : entT Tryd.prog 121 = true := by kernel_rfl
theorem en122 : entT Tryd.prog 122 = true := by kernel_rfl
theorem en123 : entT Tryd.prog 123 = true := by kernel_rfl
theorem en124 : entT Tryd.prog 124 = true := by kernel_rfl
theorem en125 : entT Tryd.prog 125 = true := by kernel_rfl
theorem en126 : entT Tryd.prog 126 = true := by kernel_rfl
theorem en127 : entT Tryd.prog 127 = true := by kernel_rfl
theorem en128 : entT Tryd.prog 128 = true := by kernel_rfl
theorem en129 : entT Tryd.prog 129 = true := by kernel_rfl
theorem en13 : entT Tryd.prog 13 = true := by kernel_rfl
theorem en130 : entT Tryd.prog 130 = true := by kernel_rfl
theorem en131 : entT Tryd.prog 131 = true := by kernel_rfl
theorem en132 : entT Tryd.prog 132 = true := by kernel_rfl
theorem en135 : entT Tryd.prog 135 = true := by kernel_rfl
theorem en136 : entT Tryd.prog 136 = true := by kernel_rfl
theorem en14 : entT Tryd.prog 14 = true := by kernel_rfl
theorem en15 : entT Tryd.prog 15 = true := by kernel_rfl
theorem en16 : entT Tryd.prog 16 = true := by kernel_rfl
theorem en166 : entT Tryd.prog 166 = true := by kernel_rfl
theorem en17 : entT Tryd.prog 17 = true := by kernel_rfl
theorem en18 : entT Tryd.prog 18 = true := by kernel_rfl
theorem en19 : entT Tryd.prog 19 = true := by kernel_rfl
theorem en2 : entT Tryd.prog 2 = true := by kernel_rfl
theorem en20 : entT Tryd.prog 20 = true := by kernel_rfl
theorem en21 : entT Tryd.prog 21 = true := by kernel_rfl
theorem en22 : entT Tryd.prog 22 = true := by kernel_rfl
theorem en23 : entT Tryd.prog 23 = true := by kernel_rfl
theorem en24 : entT Tryd.prog 24 = true := by kernel_rfl
theorem en25 : entT Tryd.prog 25 = true := by kernel_rfl
theorem en26 : entT Tryd.prog 26 = true := by kernel_rfl
theorem en27 : entT Tryd.prog 27 = true := by kernel_rfl
theorem en28 : entT Tryd.prog 28 = true := by kernel_rfl
theorem en29 : entT Tryd.prog 29 = true := by kernel_rfl
theorem en3 : entT Tryd.prog 3 = true := by kernel_rfl
theorem en30 : entT Tryd.prog 30 = true := by kernel_rfl
theorem en31 : entT Tryd.prog 31 = true := by kernel_rfl
theorem en32 : entT Tryd.prog 32 = true := by kernel_rfl
theorem en33 : entT Tryd.prog 33 = true := by kernel_rfl
theorem en34 : entT Tryd.prog 34 = true := by kernel_rfl
theorem en35 : entT Tryd.prog 35 = true := by kernel_rfl
theorem en36 : entT Tryd.prog 36 = true := by kernel_rfl
theorem en37 : entT Tryd.prog 37 = true := by kernel_rfl
theorem en38 : entT Tryd.prog 38 = true := by kernel_rfl
theorem en39 : entT Tryd.prog 39 = true := by kernel_rfl
theorem en4 : entT Tryd.prog 4 = true := by kernel_rfl
theorem en40 : entT Tryd.prog 40 = true := by kernel_rfl
theorem en41 : entT Tryd.prog 41 = true := by kernel_rfl
theorem en42 : entT Tryd.prog 42 = true := by kernel_rfl
theorem en43 : entT Tryd.prog 43 = true := by kernel_rfl
theorem en44 : entT Tryd.prog 44 = true := by kernel_rfl
theorem en45 : entT Tryd.prog 45 = true := by kernel_rfl
theorem en46 : entT Tryd.prog 46 = true := by kernel_rfl
theorem en47 : entT Tryd.prog 47 = true := by kernel_rfl
theorem en48 : entT Tryd.prog 48 = true := by kernel_rfl
theorem en49 : entT Tryd.prog 49 = true := by kernel_rfl
theorem en5 : entT Tryd.prog 5 = true := by kernel_rfl
theorem en50 : entT Tryd.prog 50 = true := by kernel_rfl
theorem en51 : entT Tryd.prog 51 = true := by kernel_rfl
theorem en52 : entT Tryd.prog 52 = true := by kernel_rfl
theorem en53 : entT Tryd.prog 53 = true := by kernel_rfl
theorem en54 : entT Tryd.prog 54 = true := by kernel_rfl
theorem en55 : entT Tryd.prog 55 = true := by kernel_rfl
theorem en56 : entT Tryd.prog 56 = true := by kernel_rfl
theorem en57 : entT Tryd.prog 57 = true := by kernel_rfl
theorem en58 : entT Tryd.prog 58 = true := by kernel_rfl
theorem en59 : entT Tryd.prog 59 = true := by kernel_rfl
theorem en6 : entT Tryd.prog 6 = true := by kernel_rfl
theorem en60 : entT Tryd.prog 60 = true := by kernel_rfl
theorem en61 : entT Tryd.prog 61 = true := by kernel_rfl
theorem en62 : entT Tryd.prog 62 = true := by kernel_rfl
theorem en63 : entT Tryd.prog 63 = true := by kernel_rfl
theorem en64 : entT Tryd.prog 64 = true := by kernel_rfl
theorem en65 : entT Tryd.prog 65 = true := by kernel_rfl
theorem en66 : entT Tryd.prog 66 = true := by kernel_rfl
theorem en67 : entT Tryd.prog 67 = true := by kernel_rfl
theorem en68 : entT Tryd.prog 68 = true := by kernel_rfl
theorem en69 : entT Tryd.prog 69 = true := by kernel_rfl
theorem en7 : entT Tryd.prog 7 = true := by kernel_rfl
theorem en70 : entT Tryd.prog 70 = true := by kernel_rfl
theorem en71 : entT Tryd.prog 71 = true := by kernel_rfl
theorem en72 : entT Tryd.prog 72 = true := by kernel_rfl
theorem en73 : entT Tryd.prog 73 = true := by kernel_rfl
theorem en74 : entT Tryd.prog 74 = true := by kernel_rfl
theorem en75 : entT Tryd.prog 75 = true := by kernel_rfl
theorem en76 : entT Tryd.prog 76 = true := by kernel_rfl
theorem en77 : entT Tryd.prog 77 = true := by kernel_rfl
theorem en78 : entT Tryd.prog 78 = true := by kernel_rfl
theorem en79 : entT Tryd.prog 79 = true := by kernel_rfl
theorem en8 : entT Tryd.prog 8 = true := by kernel_rfl
theorem en80 : entT Tryd.prog 80 = true := by kernel_rfl
theorem en81 : entT Tryd.prog 81 = true := by kernel_rfl
theorem en82 : entT Tryd.prog 82 = true := by kernel_rfl
theorem en83 : entT Tryd.prog 83 = true := by kernel_rfl
theorem en84 : entT Tryd.prog 84 = true := by kernel_rfl
theorem en85 : entT Tryd.prog 85 = true := by kernel_rfl
theorem en86 : entT Tryd.prog 86 = true := by kernel_rfl
theorem en87 : entT Tryd.prog 87 = true := by kernel_rfl
theorem en88 : entT Tryd.prog 88 = true := by kernel_rfl
theorem en89 : entT Tryd.prog 89 = true := by kernel_rfl
theorem en9 : entT Tryd.prog 9 = true := by kernel_rfl
theorem en90 : entT Tryd.prog 90 = true := by kernel_rfl
theorem en91 : entT Tryd.prog 91 = true := by kernel_rfl
theorem en92 : entT Tryd.prog 92 = true := by kernel_rfl
theorem en93 : entT Tryd.prog 93 = true := by kernel_rfl
theorem en94 : entT Tryd.prog 94 = true := by kernel_rfl
theorem en95 : entT Tryd.prog 95 = true := by kernel_rfl
theorem en96 : entT Tryd.prog 96 = true := by kernel_rfl
theorem en97 : entT Tryd.prog 97 = true := by kernel_rfl
theorem en98 : entT Tryd.prog 98 = true := by kernel_rfl
theorem en99 : entT Tryd.prog 99 = true := by kernel_rfl
theorem fi118_0 : fieldT Tryd.prog 118 0 0 = true := by kernel_rfl
theorem fi118_1 : fieldT Tryd.prog 118 1 1 = true := by kernel_rfl
theorem fi25_0 : fieldT Tryd.prog 25 0 0 = true := by kernel_rfl
theorem fi25_1 : fieldT Tryd.prog 25 1 1 = true := by kernel_rfl
theorem fi25_2 : fieldT Tryd.prog 25 2 2 = true := by kernel_rfl
theorem fi25_3 : fieldT Tryd.prog 25 3 3 = true := by kernel_rfl
theorem fi25_4 : fieldT Tryd.prog 25 4 4 = true := by kernel_rfl
theorem fi28_0 : fieldT Tryd.prog 28 0 0 = true := by kernel_rfl
theorem fi28_1 : fieldT Tryd.prog 28 1 1 = true := by kernel_rfl
theorem fi28_2 : fieldT Tryd.prog 28 2 2 = true := by kernel_rfl
theorem fi28_3 : fieldT Tryd.prog 28 3 3 = true := by kernel_rfl
theorem fi28_4 : fieldT Tryd.prog 28 4 8 = true := by kernel_rfl
theorem fi33_0 : fieldT Tryd.prog 33 0 0 = true := by kernel_rfl
theorem fi33_1 : fieldT Tryd.prog 33 1 1 = true := by kernel_rfl
theorem fi33_2 : fieldT Tryd.prog 33 2 2 = true := by kernel_rfl
theorem fi33_3 : fieldT Tryd.prog 33 3 3 = true := by kernel_rfl
theorem fi33_4 : fieldT Tryd.prog 33 4 4 = true := by kernel_rfl
theorem fi36_0 : fieldT Tryd.prog 36 0 0 = true := by kernel_rfl
theorem fi36_1 : fieldT Tryd.prog 36 1 1 = true := by kernel_rfl
theorem fi36_2 : fieldT Tryd.prog 36 2 2 = true := by kernel_rfl
theorem fi36_3 : fieldT Tryd.prog 36 3 3 = true := by kernel_rfl
theorem fi36_4 : fieldT Tryd.prog 36 4 8 = true := by kernel_rfl
theorem fi61_0 : fieldT Tryd.prog 61 0 0 = true := by kernel_rfl
theorem fi61_1 : fieldT Tryd.prog 61 1 1 = true := by kernel_rfl
theorem fi61_2 : fieldT Tryd.prog 61 2 2 = true := by kernel_rfl
theorem fi75_0 : fieldT Tryd.prog 75 0 0 = true := by kernel_rfl
theorem fi75_1 : fieldT Tryd.prog 75 1 1 = true := by kernel_rfl
theorem fi75_2 : fieldT Tryd.prog 75 2 2 = true := by kernel_rfl
theorem fi85_0 : fieldT Tryd.prog 85 0 0 = true := by kernel_rfl
theorem fi85_1 : fieldT Tryd.prog 85 1 1 = true := by kernel_rfl
theorem on1 : oneT Tryd.prog 1 = true := by kernel_rfl
theorem on10 : oneT Tryd.prog 10 = true := by kernel_rfl
theorem on100 : oneT Tryd.prog 100 = true := by kernel_rfl
theorem on101 : oneT Tryd.prog 101 = true := by kernel_rfl
theorem on102 : oneT Tryd.prog 102 = true := by kernel_rfl
theorem on103 : oneT Tryd.prog 103 = true := by kernel_rfl
theorem on104 : oneT Tryd.prog 104 = true := by kernel_rfl
theorem on105 : oneT Tryd.prog 105 = true := by kernel_rfl
theorem on106 : oneT Tryd.prog 106 = true := by kernel_rfl
theorem on107 : oneT Tryd.prog 107 = true := by kernel_rfl
theorem on108 : oneT Tryd.prog 108 = true := by kernel_rfl
theorem on109 : oneT Tryd.prog 109 = true := by kernel_rfl
theorem on11 : oneT Tryd.prog 11 = true := by kernel_rfl
theorem on110 : oneT Tryd.prog 110 = true := by kernel_rfl
theorem on112 : oneT Tryd.prog 112 = true := by kernel_rfl
theorem on113 : oneT Tryd.prog 113 = true := by kernel_rfl
theorem on114 : oneT Tryd.prog 114 = true := by kernel_rfl
theorem on115 : oneT Tryd.prog 115 = true := by kernel_rfl
theorem on116 : oneT Tryd.prog 116 = true := by kernel_rfl
theorem on119 : oneT Tryd.prog 119 = true := by kernel_rfl
theorem on12 : oneT Tryd.prog 12 = true := by kernel_rfl
theorem on120 : oneT Tryd.prog 120 = true := by kernel_rfl
theorem on121 : oneT Tryd.prog 121 = true := by kernel_rfl
theorem on122 : oneT Tryd.prog 122 = true := by kernel_rfl
theorem on123 : oneT Tryd.prog 123 = true := by kernel_rfl
theorem on125 : oneT Tryd.prog 125 = true := by kernel_rfl
theorem on126 : oneT Tryd.prog 126 = true := by kernel_rfl
theorem on128 : oneT Tryd.prog 128 = true := by kernel_rfl
theorem on129 : oneT Tryd.prog 129 = true := by kernel_rfl
theorem on130 : oneT Tryd.prog 130 = true := by kernel_rfl
theorem on131 : oneT Tryd.prog 131 = true := by kernel_rfl
theorem on132 : oneT Tryd.prog 132 = true := by kernel_rfl
theorem on135 : oneT Tryd.prog 135 = true := by kernel_rfl
theorem on136 : oneT Tryd.prog 136 = true := by kernel_rfl
theorem on137 : oneT Tryd.prog 137 = true := by kernel_rfl
theorem on139 : oneT Tryd.prog 139 = true := by kernel_rfl
theorem on140 : oneT Tryd.prog 140 = true := by kernel_rfl
theorem on141 : oneT Tryd.prog 141 = true := by kernel_rfl
theorem on143 : oneT Tryd.prog 143 = true := by kernel_rfl
theorem on145 : oneT Tryd.prog 145 = true := by kernel_rfl
theorem on146 : oneT Tryd.prog 146 = true := by kernel_rfl
theorem on149 : oneT Tryd.prog 149 = true := by kernel_rfl
theorem on15 : oneT Tryd.prog 15 = true := by kernel_rfl
theorem on150 : oneT Tryd.prog 150 = true := by kernel_rfl
theorem on151 : oneT Tryd.prog 151 = true := by kernel_rfl
theorem on152 : oneT Tryd.prog 152 = true := by kernel_rfl
theorem on154 : oneT Tryd.prog 154 = true := by kernel_rfl
theorem on156 : oneT Tryd.prog 156 = true := by kernel_rfl
theorem on157 : oneT Tryd.prog 157 = true := by kernel_rfl
theorem on158 : oneT Tryd.prog 158 = true := by kernel_rfl
theorem on159 : oneT Tryd.prog 159 = true := by kernel_rfl
theorem on16 : oneT Tryd.prog 16 = true := by kernel_rfl
theorem on163 : oneT Tryd.prog 163 = true := by kernel_rfl
theorem on164 : oneT Tryd.prog 164 = true := by kernel_rfl
theorem on165 : oneT Tryd.prog 165 = true := by kernel_rfl
theorem on17 : oneT Tryd.prog 17 = true := by kernel_rfl
theorem on173 : oneT Tryd.prog 173 = true := by kernel_rfl
theorem on174 : oneT Tryd.prog 174 = true := by kernel_rfl
theorem on175 : oneT Tryd.prog 175 = true := by kernel_rfl
theorem on176 : oneT Tryd.prog 176 = true := by kernel_rfl
theorem on177 : oneT Tryd.prog 177 = true := by kernel_rfl
theorem on180 : oneT Tryd.prog 180 = true := by kernel_rfl
theorem on2 : oneT Tryd.prog 2 = true := by kernel_rfl
theorem on21 : oneT Tryd.prog 21 = true := by kernel_rfl
theorem on22 : oneT Tryd.prog 22 = true := by kernel_rfl
theorem on23 : oneT Tryd.prog 23 = true := by kernel_rfl
theorem on26 : oneT Tryd.prog 26 = true := by kernel_rfl
theorem on29 : oneT Tryd.prog 29 = true := by kernel_rfl
theorem on3 : oneT Tryd.prog 3 = true := by kernel_rfl
theorem on30 : oneT Tryd.prog 30 = true := by kernel_rfl
theorem on31 : oneT Tryd.prog 31 = true := by kernel_rfl
theorem on34 : oneT Tryd.prog 34 = true := by kernel_rfl
theorem on37 : oneT Tryd.prog 37 = true := by kernel_rfl
theorem on38 : oneT Tryd.prog 38 = true := by kernel_rfl
theorem on39 : oneT Tryd.prog 39 = true := by kernel_rfl
theorem on4 : oneT Tryd.prog 4 = true := by kernel_rfl
theorem on40 : oneT Tryd.prog 40 = true := by kernel_rfl
theorem on41 : oneT Tryd.prog 41 = true := by kernel_rfl
theorem on42 : oneT Tryd.prog 42 = true := by kernel_rfl
theorem on43 : oneT Tryd.prog 43 = true := by kernel_rfl
theorem on44 : oneT Tryd.prog 44 = true := by kernel_rfl
theorem on45 : oneT Tryd.prog 45 = true := by kernel_rfl
theorem on46 : oneT Tryd.prog 46 = true := by kernel_rfl
theorem on47 : oneT Tryd.prog 47 = true := by kernel_rfl
theorem on49 : oneT Tryd.prog 49 = true := by kernel_rfl
theorem on5 : oneT Tryd.prog 5 = true := by kernel_rfl
theorem on50 : oneT Tryd.prog 50 = true := by kernel_rfl
theorem on51 : oneT Tryd.prog 51 = true := by kernel_rfl
theorem on52 : oneT Tryd.prog 52 = true := by kernel_rfl
theorem on53 : oneT Tryd.prog 53 = true := by kernel_rfl
theorem on54 : oneT Tryd.prog 54 = true := by kernel_rfl
theorem on55 : oneT Tryd.prog 55 = true := by kernel_rfl
theorem on56 : oneT Tryd.prog 56 = true := by kernel_rfl
theorem on57 : oneT Tryd.prog 57 = true := by kernel_rfl
theorem on58 : oneT Tryd.prog 58 = true := by kernel_rfl
theorem on59 : oneT Tryd.prog 59 = true := by kernel_rfl
theorem on6 : oneT Tryd.prog 6 = true := by kernel_rfl
theorem on62 : oneT Tryd.prog 62 = true := by kernel_rfl
theorem on63 : oneT Tryd.prog 63 = true := by kernel_rfl
theorem on64 : oneT Tryd.prog 64 = true := by kernel_rfl
theorem on65 : oneT Tryd.prog 65 = true := by kernel_rfl
theorem on66 : oneT Tryd.prog 66 = true := by kernel_rfl
theorem on67 : oneT Tryd.prog 67 = true := by kernel_rfl
theorem on68 : oneT Tryd.prog 68 = true := by kernel_rfl
theorem on69 : oneT Tryd.prog 69 = true := by kernel_rfl
theorem on70 : oneT Tryd.prog 70 = true := by kernel_rfl
theorem on71 : oneT Tryd.prog 71 = true := by kernel_rfl
theorem on72 : oneT Tryd.prog 72 = true := by kernel_rfl
theorem on73 : oneT Tryd.prog 73 = true := by kernel_rfl
theorem on74 : oneT Tryd.prog 74 = true := by kernel_rfl
theorem on76 : oneT Tryd.prog 76 = true := by kernel_rfl
theorem on77 : oneT Tryd.prog 77 = true := by kernel_rfl
theorem on78 : oneT Tryd.prog 78 = true := by kernel_rfl
theorem on79 : oneT Tryd.prog 79 = true := by kernel_rfl
theorem on80 : oneT Tryd.prog 80 = true := by kernel_rfl
theorem on82 : oneT Tryd.prog 82 = true := by kernel_rfl
theorem on83 : oneT Tryd.prog 83 = true := by kernel_rfl
theorem on86 : oneT Tryd.prog 86 = true := by kernel_rfl
theorem on9 : oneT Tryd.prog 9 = true := by kernel_rfl
theorem on90 : oneT Tryd.prog 90 = true := by kernel_rfl
theorem on91 : oneT Tryd.prog 91 = true := by kernel_rfl
theorem on92 : oneT Tryd.prog 92 = true := by kernel_rfl
theorem on93 : oneT Tryd.prog 93 = true := by kernel_rfl
theorem on94 : oneT Tryd.prog 94 = true := by kernel_rfl
theorem on95 : oneT Tryd.prog 95 = true := by kernel_rfl
theorem on96 : oneT Tryd.prog 96 = true := by kernel_rfl
theorem on97 : oneT Tryd.prog 97 = true := by kernel_rfl
theorem on98 : oneT Tryd.prog 98 = true := by kernel_rfl
theorem on99 : oneT Tryd.prog 99 = true := by kernel_rfl
theorem sl108 : sliceT Tryd.prog 108 3 1 8 = true := by kernel_rfl
theorem sl136 : sliceT Tryd.prog 136 44 1 24 = true := by kernel_rfl
theorem sl22 : sliceT Tryd.prog 22 9 1 16 = true := by kernel_rfl
theorem sl23 : sliceT Tryd.prog 23 25 5 80 = true := by kernel_rfl
theorem sl26 : sliceT Tryd.prog 26 28 9 136 = true := by kernel_rfl
theorem sl31 : sliceT Tryd.prog 31 33 5 80 = true := by kernel_rfl
theorem sl34 : sliceT Tryd.prog 34 36 9 136 = true := by kernel_rfl
theorem sl41 : sliceT Tryd.prog 41 75 3 32 = true := by kernel_rfl
theorem sl44 : sliceT Tryd.prog 44 61 3 32 = true := by kernel_rfl
theorem sl57 : sliceT Tryd.prog 57 5 1 1 = true := by kernel_rfl
theorem st10 : strT Tryd.prog 10 = true := by kernel_rfl
theorem st11 : strT Tryd.prog 11 = true := by kernel_rfl
theorem st9 : strT Tryd.prog 9 = true := by kernel_rfl
theorem sz1 : sizeT Tryd.prog 1 1 = true := by kernel_rfl
theorem sz10 : sizeT Tryd.prog 10 1 = true := by kernel_rfl
theorem sz100 : sizeT Tryd.prog 100 1 = true := by kernel_rfl
theorem sz101 : sizeT Tryd.prog 101 1 = true := by kernel_rfl
theorem sz102 : sizeT Tryd.prog 102 1 = true := by kernel_rfl
theorem sz103 : sizeT Tryd.prog 103 1 = true := by kernel_rfl
theorem sz104 : sizeT Tryd.prog 104 1 = true := by kernel_rfl
theorem sz105 : sizeT Tryd.prog 105 1 = true := by kernel_rfl
theorem sz106 : sizeT Tryd.prog 106 1 = true := by kernel_rfl
theorem sz107 : sizeT Tryd.prog 107 1 = true := by kernel_rfl
theorem sz108 : sizeT Tryd.prog 108 1 = true := by kernel_rfl
theorem sz109 : sizeT Tryd.prog 109 1 = true := by kernel_rfl
theorem sz11 : sizeT Tryd.prog 11 1 = true := by kernel_rfl
theorem sz110 : sizeT Tryd.prog 110 1 = true := by kernel_rfl
theorem sz112 : sizeT Tryd.prog 112 1 = true := by kernel_rfl
theorem sz113 : sizeT Tryd.prog 113 1 = true := by kernel_rfl
theorem sz114 : sizeT Tryd.prog 114 1 = true := by kernel_rfl
theorem sz115 : sizeT Tryd.prog 115 1 = true := by kernel_rfl
theorem sz116 : sizeT Tryd.prog 116 1 = true := by kernel_rfl
theorem sz118 : sizeT Tryd.prog 118 2 = true := by kernel_rfl
theorem sz119 : sizeT Tryd.prog 119 1 = true := by kernel_rfl
theorem sz12 : sizeT Tryd.prog 12 1 = true := by kernel_rfl
theorem sz120 : sizeT Tryd.prog 120 1 = true := by kernel_rfl
theorem sz121 : sizeT Tryd.prog 121 1 = true := by kernel_rfl
theorem sz122 : sizeT Tryd.prog 122 1 = true := by kernel_rfl
theorem sz123 : sizeT Tryd.prog 123 1 = true := by kernel_rfl
theorem sz125 : sizeT Tryd.prog 125 1 = true := by kernel_rfl
theorem sz126 : sizeT Tryd.prog 126 1 = true := by kernel_rfl
theorem sz128 : sizeT Tryd.prog 128 1 = true := by kernel_rfl
theorem sz129 : sizeT Tryd.prog 129 1 = true := by kernel_rfl
theorem sz130 : sizeT Tryd.prog 130 1 = true := by kernel_rfl
theorem sz131 : sizeT Tryd.prog 131 1 = true := by kernel_rfl
theorem sz132 : sizeT Tryd.prog 132 1 = true := by kernel_rfl
theorem sz135 : sizeT Tryd.prog 135 1 = true := by kernel_rfl
theorem sz136 : sizeT Tryd.prog 136 1 = true := by kernel_rfl
theorem sz137 : sizeT Tryd.prog 137 1 = true := by kernel_rfl
theorem sz139 : sizeT Tryd.prog 139 1 = true := by kernel_rfl
theorem sz140 : sizeT Tryd.prog 140 1 = true := by kernel_rfl
theorem sz141 : sizeT Tryd.prog 141 1 = true := by kernel_rfl
theorem sz143 : sizeT Tryd.prog 143 1 = true := by kernel_rfl
theorem sz145 : sizeT Tryd.prog 145 1 = true := by kernel_rfl
theorem sz146 : sizeT Tryd.prog 146 1 = true := by kernel_rfl
theorem sz149 : sizeT Tryd.prog 149 1 = true := by kernel_rfl
theorem sz15 : sizeT Tryd.prog 15 1 = true := by kernel_rfl
theorem sz150 : sizeT Tryd.prog 150 1 = true := by kernel_rfl
theorem sz151 : sizeT Tryd.prog 151 1 = true := by kernel_rfl
theorem sz152 : sizeT Tryd.prog 152 1 = true := by kernel_rfl
theorem sz154 : sizeT Tryd.prog 154 1 = true := by kernel_rfl
theorem sz156 : sizeT Tryd.prog 156 1 = true := by kernel_rfl
theorem sz157 : sizeT Tryd.prog 157 1 = true := by kernel_rfl
theorem sz158 : sizeT Tryd.prog 158 1 = true := by kernel_rfl
theorem sz159 : sizeT Tryd.prog 159 1 = true := by kernel_rfl
theorem sz16 : sizeT Tryd.prog 16 1 = true := by kernel_rfl
theorem sz163 : sizeT Tryd.prog 163 1 = true := by kernel_rfl
theorem sz164 : sizeT Tryd.prog 164 1 = true := by kernel_rfl
theorem sz165 : sizeT Tryd.prog 165 1 = true := by kernel_rfl
theorem sz17 : sizeT Tryd.prog 17 1 = true := by kernel_rfl
theorem sz173 : sizeT Tryd.prog 173 1 = true := by kernel_rfl
theorem sz174 : sizeT Tryd.prog 174 1 = true := by kernel_rfl
theorem sz175 : sizeT Tryd.prog 175 1 = true := by kernel_rfl
theorem sz176 : sizeT Tryd.prog 176 1 = true := by kernel_rfl
theorem sz177 : sizeT Tryd.prog 177 1 = true := by kernel_rfl
theorem sz180 : sizeT Tryd.prog 180 1 = true := by kernel_rfl
theorem sz2 : sizeT Tryd.prog 2 1 = true := by kernel_rfl
theorem sz21 : sizeT Tryd.prog 21 1 = true := by kernel_rfl
theorem sz22 : sizeT Tryd.prog 22 1 = true := by kernel_rfl
theorem sz23 : sizeT Tryd.prog 23 1 = true := by kernel_rfl
theorem sz25 : sizeT Tryd.prog 25 5 = true := by kernel_rfl
theorem sz26 : sizeT Tryd.prog 26 1 = true := by kernel_rfl
theorem sz28 : sizeT Tryd.prog 28 9 = true := by kernel_rfl
theorem sz29 : sizeT Tryd.prog 29 1 = true := by kernel_rfl
theorem sz3 : sizeT Tryd.prog 3 1 = true := by kernel_rfl
theorem sz30 : sizeT Tryd.prog 30 1 = true := by kernel_rfl
theorem sz31 : sizeT Tryd.prog 31 1 = true := by kernel_rfl
theorem sz33 : sizeT Tryd.prog 33 5 = true := by kernel_rfl
theorem sz34 : sizeT Tryd.prog 34 1 = true := by kernel_rfl
theorem sz36 : sizeT Tryd.prog 36 9 = true := by kernel_rfl
theorem sz37 : sizeT Tryd.prog 37 1 = true := by kernel_rfl
theorem sz38 : sizeT Tryd.prog 38 1 = true := by kernel_rfl
theorem sz39 : sizeT Tryd.prog 39 1 = true := by kernel_rfl
theorem sz4 : sizeT Tryd.prog 4 1 = true := by kernel_rfl
theorem sz40 : sizeT Tryd.prog 40 1 = true := by kernel_rfl
theorem sz41 : sizeT Tryd.prog 41 1 = true := by kernel_rfl
theorem sz42 : sizeT Tryd.prog 42 1 = true := by kernel_rfl
theorem sz43 : sizeT Tryd.prog 43 1 = true := by kernel_rfl
theorem sz44 : sizeT Tryd.prog 44 1 = true := by kernel_rfl
theorem sz45 : sizeT Tryd.prog 45 1 = true := by kernel_rfl
theorem sz46 : sizeT Tryd.prog 46 1 = true := by kernel_rfl
theorem sz47 : sizeT Tryd.prog 47 1 = true := by kernel_rfl
theorem sz49 : sizeT Tryd.prog 49 1 = true := by kernel_rfl
theorem sz5 : sizeT Tryd.prog 5 1 = true := by kernel_rfl
theorem sz50 : sizeT Tryd.prog 50 1 = true := by kernel_rfl
theorem sz51 : sizeT Tryd.prog 51 1 = true := by kernel_rfl
theorem sz52 : sizeT Tryd.prog 52 1 = true := by kernel_rfl
theorem sz53 : sizeT Tryd.prog 53 1 = true := by kernel_rfl
theorem sz54 : sizeT Tryd.prog 54 1 = true := by kernel_rfl
theorem sz55 : sizeT Tryd.prog 55 1 = true := by kernel_rfl
theorem sz56 : sizeT Tryd.prog 56 1 = true := by kernel_rfl
theorem sz57 : sizeT Tryd.prog 57 1 = true := by kernel_rfl
theorem sz58 : sizeT Tryd.prog 58 1 = true := by kernel_rfl
theorem sz59 : sizeT Tryd.prog 59 1 = true := by kernel_rfl
theorem sz6 : sizeT Tryd.prog 6 1 = true := by kernel_rfl
theorem sz61 : sizeT Tryd.prog 61 3 = true := by kernel_rfl
theorem sz62 : sizeT Tryd.prog 62 1 = true := by kernel_rfl
theorem sz63 : sizeT Tryd.prog 63 1 = true := by kernel_rfl
theorem sz64 : sizeT Tryd.prog 64 1 = true := by kernel_rfl
theorem sz65 : sizeT Tryd.prog 65 1 = true := by kernel_rfl
theorem sz66 : sizeT Tryd.prog 66 1 = true := by kernel_rfl
theorem sz67 : sizeT Tryd.prog 67 1 = true := by kernel_rfl
theorem sz68 : sizeT Tryd.prog 68 1 = true := by kernel_rfl
theorem sz69 : sizeT Tryd.prog 69 1 = true := by kernel_rfl
theorem sz70 : sizeT Tryd.prog 70 1 = true := by kernel_rfl
theorem sz71 : sizeT Tryd.prog 71 1 = true := by kernel_rfl
theorem sz72 : sizeT Tryd.prog 72 1 = true := by kernel_rfl
theorem sz73 : sizeT Tryd.prog 73 1 = true := by kernel_rfl
theorem sz74 : sizeT Tryd.prog 74 1 = true := by kernel_rfl
theorem sz75 : sizeT Tryd.prog 75 3 = true := by kernel_rfl
theorem sz76 : sizeT Tryd.prog 76 1 = true := by kernel_rfl
theorem sz77 : sizeT Tryd.prog 77 1 = true := by kernel_rfl
theorem sz78 : sizeT Tryd.prog 78 1 = true := by kernel_rfl
theorem sz79 : sizeT Tryd.prog 79 1 = true := by kernel_rfl
theorem sz80 : sizeT Tryd.prog 80 1 = true := by kernel_rfl
theorem sz82 : sizeT Tryd.prog 82 1 = true := by kernel_rfl
theorem sz83 : sizeT Tryd.prog 83 1 = true := by kernel_rfl
theorem sz85 : sizeT Tryd.prog 85 2 = true := by kernel_rfl
theorem sz86 : sizeT Tryd.prog 86 1 = true := by kernel_rfl
theorem sz9 : sizeT Tryd.prog 9 1 = true := by kernel_rfl
theorem sz90 : sizeT Tryd.prog 90 1 = true := by kernel_rfl
theorem sz91 : sizeT Tryd.prog 91 1 = true := by kernel_rfl
theorem sz92 : sizeT Tryd.prog 92 1 = true := by kernel_rfl
theorem sz93 : sizeT Tryd.prog 93 1 = true := by kernel_rfl
theorem sz94 : sizeT Tryd.prog 94 1 = true := by kernel_rfl
theorem sz95 : sizeT Tryd.prog 95 1 = true := by kernel_rfl
theorem sz96 : sizeT Tryd.prog 96 1 = true := by kernel_rfl
theorem sz97 : sizeT Tryd.prog 97 1 = true := by kernel_rfl
theorem sz98 : sizeT Tryd.prog 98 1 = true := by kernel_rfl
theorem sz99 : sizeT Tryd.prog 99 1 = true := by kernel_rfl
theorem zero10 : (Tryd.prog.info? 10).bind (·.zero) = some (.string ⟨#[]⟩) := by kernel_rfl
theorem zero108 : (Tryd.prog.info? 108).bind (·.zero) = some (.slice none 0 0) := by kernel_rfl
theorem zero11 : (Tryd.prog.info? 11).bind (·.zero) = some (.string ⟨#[]⟩) := by kernel_rfl
theorem zero117 : (Tryd.prog.info? 117).bind (·.zero) = some (.agg #[.slice none 0 0, .int .i64 0]) := by kernel_rfl
theorem zero118 : (Tryd.prog.info? 118).bind (·.zero) = some (.agg #[.slice none 0 0, .int .i64 0]) := by kernel_rfl
theorem zero12 : (Tryd.prog.info? 12).bind (·.zero) = some (.int .u64 0) := by kernel_rfl
theorem zero126 : (Tryd.prog.info? 126).bind (·.zero) = some (.int .i64 0) := by kernel_rfl
theorem zero129 : (Tryd.prog.info? 129).bind (·.zero) = some (.pointer none) := by kernel_rfl
theorem zero13 : (Tryd.prog.info? 13).bind (·.zero) = some (.agg #[.string ⟨#[]⟩, .int .u64 0]) := by kernel_rfl
theorem zero132 : (Tryd.prog.info? 132).bind (·.zero) = some (.pointer none) := by kernel_rfl
theorem zero133 : (Tryd.prog.info? 133).bind (·.zero) = some (.agg #[.pointer none, .slice none 0 0]) := by kernel_rfl
theorem zero134 : (Tryd.prog.info? 134).bind (·.zero) = some (.agg #[.pointer none, .slice none 0 0]) := by kernel_rfl
theorem zero136 : (Tryd.prog.info? 136).bind (·.zero) = some (.slice none 0 0) := by kernel_rfl
theorem zero138 : (Tryd.prog.info? 138).bind (·.zero) = some (.agg #[.int .u8 0, .int .u8 0, .int .u8 0, .int .u8 0, .int .u8 0, .int .u8 0, .int .u8 0, .int .u8 0, .int .u8 0, .int .u8 0, .int .u8 0, .int .u8 0, .int .u8 0, .int .u8 0, .int .u8 0, .int .u8 0, .int .u8 0, .int .u8 0, .int .u8 0, .int .u8 0, .int .u8 0, .int .u8 0, .int .u8 0, .int .u8 0]) := by kernel_rfl
theorem zero139 : (Tryd.prog.info? 139).bind (·.zero) = some (.int .u64 0) := by kernel_rfl
theorem zero14 : (Tryd.prog.info? 14).bind (·.zero) = some (.agg #[.string ⟨#[]⟩, .int .u64 0]) := by kernel_rfl
theorem zero146 : (Tryd.prog.info? 146).bind (·.zero) = some (.int .u64 0) := by kernel_rfl
theorem zero15 : (Tryd.prog.info? 15).bind (·.zero) = some (.pointer none) := by kernel_rfl
theorem zero150 : (Tryd.prog.info? 150).bind (·.zero) = some (.pointer none) := by kernel_rfl
theorem zero153 : (Tryd.prog.info? 153).bind (·.zero) = some (.agg #[.int .u64 0, .int .u64 0, .int .u64 0, .int .u64 0, .int .u64 0, .int .u64 0, .int .u64 0, .int .u64 0, .int .u64 0, .int .u64 0, .int .u64 0, .int .u64 0, .int .u64 0, .int .u64 0, .int .u64 0, .int .u64 0, .int .u64 0, .int .u64 0, .int .u64 0, .int .u64 0]) := by kernel_rfl
theorem zero154 : (Tryd.prog.info? 154).bind (·.zero) = some (.int .u32 0) := by kernel_rfl
theorem zero155 : (Tryd.prog.info? 155).bind (·.zero) = some (.agg #[.int .u8 0, .int .u8 0, .int .u8 0, .int .u8 0, .int .u8 0, .int .u8 0, .int .u8 0, .int .u8 0, .int .u8 0, .int .u8 0, .int .u8 0, .int .u8 0, .int .u8 0, .int .u8 0, .int .u8 0, .int .u8 0, .int .u8 0, .int .u8 0, .int .u8 0, .int .u8 0, .int .u8 0, .int .u8 0, .int .u8 0, .int .u8 0, .int .u8 0, .int .u8 0, .int .u8 0, .int .u8 0, .int .u8 0, .int .u8 0, .int .u8 0, .int .u8 0, .int .u8 0, .int .u8 0, .int .u8 0, .int .u8 0, .int .u8 0, .int .u8 0, .int .u8 0, .int .u8 0, .int .u8 0, .int .u8 0, .int .u8 0, .int .u8 0, .int .u8 0, .int .u8 0, .int .u8 0, .int .u8 0, .int .u8 0, .int .u8 0, .int .u8 0, .int .u8 0, .int .u8 0, .int .u8 0, .int .u8 0, .int .u8 0, .int .u8 0, .int .u8 0, .int .u8 0, .int .u8 0, .int .u8 0, .int .u8 0, .int .u8 0, .int .u8 0, .int .u8 0]) := by kernel_rfl
theorem zero159 : (Tryd.prog.info? 159).bind (·.zero) = some (.pointer none) := by kernel_rfl
theorem zero16 : (Tryd.prog.info? 16).bind (·.zero) = some (.pointer none) := by kernel_rfl
theorem zero160 : (Tryd.prog.info? 160).bind (·.zero) = some (.agg #[.string ⟨#[]⟩]) := by kernel_rfl
theorem zero161 : (Tryd.prog.info? 161).bind (·.zero) = some (.agg #[.string ⟨#[]⟩]) := by kernel_rfl
theorem zero162 : (Tryd.prog.info? 162).bind (·.zero) = some (.pointer none) := by kernel_rfl
theorem zero166 : (Tryd.prog.info? 166).bind (·.zero) = some (.agg #[.int .u8 0, .int .u8 0, .int .u8 0, .int .u8 0, .int .u8 0, .int .u8 0, .int .u8 0, .int .u8 0, .int .u8 0, .int .u8 0, .int .u8 0, .int .u8 0, .int .u8 0, .int .u8 0, .int .u8 0, .int .u8 0, .int .u8 0, .int .u8 0, .int .u8 0, .int .u8 0, .int .u8 0, .int .u8 0, .int .u8 0, .int .u8 0, .int .u8 0, .int .u8 0, .int .u8 0, .int .u8 0, .int .u8 0, .int .u8 0, .int .u8 0, .int .u8 0]) := by kernel_rfl
theorem zero167 : (Tryd.prog.info? 167).bind (·.zero) = some (.agg #[.int .u8 0, .int .u8 0, .int .u8 0, .int .u8 0, .int .u8 0, .int .u8 0, .int .u8 0, .int .u8 0, .int .u8 0, .int .u8 0, .int .u8 0, .int .u8 0, .int .u8 0, .int .u8 0, .int .u8 0, .int .u8 0, .int .u8 0, .int .u8 0, .int .u8 0, .int .u8 0, .int .u8 0, .int .u8 0, .int .u8 0, .int .u8 0, .int .u8 0, .int .u8 0, .int .u8 0, .int .u8 0, .int .u8 0, .int .u8 0, .int .u8 0, .int .u8 0, .int .u8 0, .int .u8 0, .int .u8 0, .int .u8 0, .int .u8 0, .int .u8 0, .int .u8 0, .int .u8 0, .int .u8 0, .int .u8 0, .int .u8 0, .int .u8 0, .int .u8 0, .int .u8 0, .int .u8 0, .int .u8 0, .int .u8 0, .int .u8 0, .int .u8 0, .int .u8 0, .int .u8 0, .int .u8 0, .int .u8 0, .int .u8 0, .int .u8 0, .int .u8 0, .int .u8 0, .int .u8 0, .int .u8 0, .int .u8 0, .int .u8 0, .int .u8 0]) := by kernel_rfl
theorem zero168 : (Tryd.prog.info? 168).bind (·.zero) = some (.agg #[.pointer none, .pointer none, .pointer none, .string ⟨#[]⟩]) := by kernel_rfl
theorem zero169 : (Tryd.prog.info? 169).bind (·.zero) = some (.agg #[.pointer none, .pointer none, .pointer none, .string ⟨#[]⟩]) := by kernel_rfl
theorem zero17 : (Tryd.prog.info? 17).bind (·.zero) = some (.pointer none) := by kernel_rfl
theorem zero173 : (Tryd.prog.info? 173).bind (·.zero) = some (.int .u8 0) := by kernel_rfl
theorem zero174 : (Tryd.prog.info? 174).bind (·.zero) = some (.int .u8 0) := by kernel_rfl
theorem zero176 : (Tryd.prog.info? 176).bind (·.zero) = some (.int .i32 0) := by kernel_rfl
theorem zero177 : (Tryd.prog.info? 177).bind (·.zero) = some (.int .i32 0) := by kernel_rfl
theorem zero18 : (Tryd.prog.info? 18).bind (·.zero) = some (.agg #[.pointer none]) := by kernel_rfl
theorem zero19 : (Tryd.prog.info? 19).bind (·.zero) = some (.agg #[.pointer none]) := by kernel_rfl
theorem zero2 : (Tryd.prog.info? 2).bind (·.zero) = some (.int .i64 0) := by kernel_rfl
theorem zero21 : (Tryd.prog.info? 21).bind (·.zero) = some (.int .i32 0) := by kernel_rfl
theorem zero22 : (Tryd.prog.info? 22).bind (·.zero) = some (.slice none 0 0) := by kernel_rfl
theorem zero23 : (Tryd.prog.info? 23).bind (·.zero) = some (.slice none 0 0) := by kernel_rfl
theorem zero24 : (Tryd.prog.info? 24).bind (·.zero) = some (.agg #[.int .i64 0, .int .i64 0, .string ⟨#[]⟩, .slice none 0 0, .slice none 0 0]) := by kernel_rfl
theorem zero25 : (Tryd.prog.info? 25).bind (·.zero) = some (.agg #[.int .i64 0, .int .i64 0, .string ⟨#[]⟩, .slice none 0 0, .slice none 0 0]) := by kernel_rfl
theorem zero26 : (Tryd.prog.info? 26).bind (·.zero) = some (.slice none 0 0) := by kernel_rfl
theorem zero27 : (Tryd.prog.info? 27).bind (·.zero) = some (.agg #[.int .i64 0, .int .i64 0, .string ⟨#[]⟩, .int .i64 0, .int .i64 0, .string ⟨#[]⟩, .slice none 0 0, .slice none 0 0, .slice none 0 0]) := by kernel_rfl
theorem zero28 : (Tryd.prog.info? 28).bind (·.zero) = some (.agg #[.int .i64 0, .int .i64 0, .string ⟨#[]⟩, .int .i64 0, .int .i64 0, .string ⟨#[]⟩, .slice none 0 0, .slice none 0 0, .slice none 0 0]) := by kernel_rfl
theorem zero3 : (Tryd.prog.info? 3).bind (·.zero) = some (.int .i64 0) := by kernel_rfl
theorem zero31 : (Tryd.prog.info? 31).bind (·.zero) = some (.slice none 0 0) := by kernel_rfl
theorem zero32 : (Tryd.prog.info? 32).bind (·.zero) = some (.agg #[.int .i64 0, .int .i64 0, .string ⟨#[]⟩, .slice none 0 0, .slice none 0 0]) := by kernel_rfl
theorem zero33 : (Tryd.prog.info? 33).bind (·.zero) = some (.agg #[.int .i64 0, .int .i64 0, .string ⟨#[]⟩, .slice none 0 0, .slice none 0 0]) := by kernel_rfl
theorem zero34 : (Tryd.prog.info? 34).bind (·.zero) = some (.slice none 0 0) := by kernel_rfl
theorem zero35 : (Tryd.prog.info? 35).bind (·.zero) = some (.agg #[.int .i64 0, .int .i64 0, .string ⟨#[]⟩, .int .i64 0, .int .i64 0, .string ⟨#[]⟩, .slice none 0 0, .slice none 0 0, .slice none 0 0]) := by kernel_rfl
theorem zero36 : (Tryd.prog.info? 36).bind (·.zero) = some (.agg #[.int .i64 0, .int .i64 0, .string ⟨#[]⟩, .int .i64 0, .int .i64 0, .string ⟨#[]⟩, .slice none 0 0, .slice none 0 0, .slice none 0 0]) := by kernel_rfl
theorem zero4 : (Tryd.prog.info? 4).bind (·.zero) = some (.bool false) := by kernel_rfl
theorem zero41 : (Tryd.prog.info? 41).bind (·.zero) = some (.slice none 0 0) := by kernel_rfl
theorem zero44 : (Tryd.prog.info? 44).bind (·.zero) = some (.slice none 0 0) := by kernel_rfl
theorem zero5 : (Tryd.prog.info? 5).bind (·.zero) = some (.int .u8 0) := by kernel_rfl
theorem zero57 : (Tryd.prog.info? 57).bind (·.zero) = some (.slice none 0 0) := by kernel_rfl
theorem zero6 : (Tryd.prog.info? 6).bind (·.zero) = some (.int .u8 0) := by kernel_rfl
theorem zero60 : (Tryd.prog.info? 60).bind (·.zero) = some (.agg #[.bool false, .string ⟨#[]⟩, .int .i64 0]) := by kernel_rfl
theorem zero61 : (Tryd.prog.info? 61).bind (·.zero) = some (.agg #[.bool false, .string ⟨#[]⟩, .int .i64 0]) := by kernel_rfl
theorem zero7 : (Tryd.prog.info? 7).bind (·.zero) = some (.agg #[.int .i64 0, .int .i64 0, .bool false, .int .u8 0]) := by kernel_rfl
theorem zero71 : (Tryd.prog.info? 71).bind (·.zero) = some (.pointer none) := by kernel_rfl
theorem zero75 : (Tryd.prog.info? 75).bind (·.zero) = some (.agg #[.bool false, .string ⟨#[]⟩, .int .i64 0]) := by kernel_rfl
theorem zero8 : (Tryd.prog.info? 8).bind (·.zero) = some (.agg #[.int .i64 0, .int .i64 0, .bool false, .int .u8 0]) := by kernel_rfl
theorem zero83 : (Tryd.prog.info? 83).bind (·.zero) = some (.pointer none) := by kernel_rfl
theorem zero84 : (Tryd.prog.info? 84).bind (·.zero) = some (.agg #[.string ⟨#[]⟩, .int .i64 0]) := by kernel_rfl
theorem zero85 : (Tryd.prog.info? 85).bind (·.zero) = some (.agg #[.string ⟨#[]⟩, .int .i64 0]) := by kernel_rfl
theorem zero9 : (Tryd.prog.info? 9).bind (·.zero) = some (.string ⟨#[]⟩) := by kernel_rfl
theorem zero98 : (Tryd.prog.info? 98).bind (·.zero) = some (.pointer none) := by kernel_rfl
end Go.Proofs.YtpfkcblhojkaiaaDoor.Eng
