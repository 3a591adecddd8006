import Derived.Test.YtopbbbhhbnghpaaGreatDoorLsG5
import Derived.Test.YtopbbbhhbnghpaaGreatDoorProg
import Derived.KernelRfl
set_option maxRecDepth 100000
namespace Go.Proofs.YtopbbbhhbnghpaaGreatDoor
open Go Go.LS
noncomputable def lf174 : LFn := (compF Tryz.prog (fun _ _ => false) Tryz.f174).getD default
theorem cf174 : compF Tryz.prog (fun _ _ => false) Tryz.f174 = some lf174 := by kernel_rfl
theorem fr174 : FR Tryz.prog 174 lf174 := compF_sound (by kernel_rfl) Tryz.func174 (by kernel_rfl) cf174
noncomputable def lf176 : LFn := (compF Tryz.prog (fun _ _ => false) Tryz.f176).getD default
theorem cf176 : compF Tryz.prog (fun _ _ => false) Tryz.f176 = some lf176 := by kernel_rfl
theorem fr176 : FR Tryz.prog 176 lf176 := compF_sound (by kernel_rfl) Tryz.func176 (by kernel_rfl) cf176
noncomputable def lf177 : LFn := (compF Tryz.prog (fun _ _ => false) Tryz.f177).getD default
theorem cf177 : compF Tryz.prog (fun _ _ => false) Tryz.f177 = some lf177 := by kernel_rfl
theorem fr177 : FR Tryz.prog 177 lf177 := compF_sound (by kernel_rfl) Tryz.func177 (by kernel_rfl) cf177
noncomputable def lf178 : LFn := (compF Tryz.prog (fun _ _ => false) Tryz.f178).getD default
theorem cf178 : compF Tryz.prog (fun _ _ => false) Tryz.f178 = some lf178 := by kernel_rfl
theorem fr178 : FR Tryz.prog 178 lf178 := compF_sound (by kernel_rfl) Tryz.func178 (by kernel_rfl) cf178
noncomputable def lf181 : LFn := (compF Tryz.prog (fun _ _ => false) Tryz.f181).getD default
theorem cf181 : compF Tryz.prog (fun _ _ => false) Tryz.f181 = some lf181 := by kernel_rfl
theorem fr181 : FR Tryz.prog 181 lf181 := compF_sound (by kernel_rfl) Tryz.func181 (by kernel_rfl) cf181
noncomputable def lf182 : LFn := (compF Tryz.prog (fun _ _ => false) Tryz.f182).getD default
theorem cf182 : compF Tryz.prog (fun _ _ => false) Tryz.f182 = some lf182 := by kernel_rfl
theorem fr182 : FR Tryz.prog 182 lf182 := compF_sound (by kernel_rfl) Tryz.func182 (by kernel_rfl) cf182
noncomputable def lf184 : LFn := (compF Tryz.prog (fun _ _ => false) Tryz.f184).getD default
theorem cf184 : compF Tryz.prog (fun _ _ => false) Tryz.f184 = some lf184 := by kernel_rfl
theorem fr184 : FR Tryz.prog 184 lf184 := compF_sound (by kernel_rfl) Tryz.func184 (by kernel_rfl) cf184
noncomputable def lf187 : LFn := (compF Tryz.prog (fun _ _ => false) Tryz.f187).getD default
theorem cf187 : compF Tryz.prog (fun _ _ => false) Tryz.f187 = some lf187 := by kernel_rfl
theorem fr187 : FR Tryz.prog 187 lf187 := compF_sound (by kernel_rfl) Tryz.func187 (by kernel_rfl) cf187
noncomputable def lf188 : LFn := (compF Tryz.prog (fun _ _ => false) Tryz.f188).getD default
theorem cf188 : compF Tryz.prog (fun _ _ => false) Tryz.f188 = some lf188 := by kernel_rfl
theorem fr188 : FR Tryz.prog 188 lf188 := compF_sound (by kernel_rfl) Tryz.func188 (by kernel_rfl) cf188
noncomputable def lf189 : LFn := (compF Tryz.prog (fun _ _ => false) Tryz.f189).getD default
theorem cf189 : compF Tryz.prog (fun _ _ => false) Tryz.f189 = some lf189 := by kernel_rfl
theorem fr189 : FR Tryz.prog 189 lf189 := compF_sound (by kernel_rfl) Tryz.func189 (by kernel_rfl) cf189
noncomputable def lf190 : LFn := (compF Tryz.prog (fun _ _ => false) Tryz.f190).getD default
theorem cf190 : compF Tryz.prog (fun _ _ => false) Tryz.f190 = some lf190 := by kernel_rfl
theorem fr190 : FR Tryz.prog 190 lf190 := compF_sound (by kernel_rfl) Tryz.func190 (by kernel_rfl) cf190
noncomputable def lf191 : LFn := (compF Tryz.prog (fun _ _ => false) Tryz.f191).getD default
theorem cf191 : compF Tryz.prog (fun _ _ => false) Tryz.f191 = some lf191 := by kernel_rfl
theorem fr191 : FR Tryz.prog 191 lf191 := compF_sound (by kernel_rfl) Tryz.func191 (by kernel_rfl) cf191
noncomputable def lf192 : LFn := (compF Tryz.prog (fun _ _ => false) Tryz.f192).getD default
theorem cf192 : compF Tryz.prog (fun _ _ => false) Tryz.f192 = some lf192 := by kernel_rfl
theorem fr192 : FR Tryz.prog 192 lf192 := compF_sound (by kernel_rfl) Tryz.func192 (by kernel_rfl) cf192
noncomputable def lf193 : LFn := (compF Tryz.prog (fun _ _ => false) Tryz.f193).getD default
theorem cf193 : compF Tryz.prog (fun _ _ => false) Tryz.f193 = some lf193 := by kernel_rfl
theorem fr193 : FR Tryz.prog 193 lf193 := compF_sound (by kernel_rfl) Tryz.func193 (by kernel_rfl) cf193
noncomputable def lf194 : LFn := (compF Tryz.prog (fun _ _ => false) Tryz.f194).getD default
theorem cf194 : compF Tryz.prog (fun _ _ => false) Tryz.f194 = some lf194 := by kernel_rfl
theorem fr194 : FR Tryz.prog 194 lf194 := compF_sound (by kernel_rfl) Tryz.func194 (by kernel_rfl) cf194
noncomputable def lf195 : LFn := (compF Tryz.prog (fun _ _ => false) Tryz.f195).getD default
theorem cf195 : compF Tryz.prog (fun _ _ => false) Tryz.f195 = some lf195 := by kernel_rfl
theorem fr195 : FR Tryz.prog 195 lf195 := compF_sound (by kernel_rfl) Tryz.func195 (by kernel_rfl) cf195
noncomputable def lf196 : LFn := (compF Tryz.prog (fun _ _ => false) Tryz.f196).getD default
theorem cf196 : compF Tryz.prog (fun _ _ => false) Tryz.f196 = some lf196 := by kernel_rfl
theorem fr196 : FR Tryz.prog 196 lf196 := compF_sound (by kernel_rfl) Tryz.func196 (by kernel_rfl) cf196
noncomputable def lf197 : LFn := (compF Tryz.prog (fun _ _ => false) Tryz.f197).getD default
theorem cf197 : compF Tryz.prog (fun _ _ => false) Tryz.f197 = some lf197 := by kernel_rfl
theorem fr197 : FR Tryz.prog 197 lf197 := compF_sound (by kernel_rfl) Tryz.func197 (by kernel_rfl) cf197
noncomputable def lf198 : LFn := (compF Tryz.prog (fun _ _ => false) Tryz.f198).getD default
theorem cf198 : compF Tryz.prog (fun _ _ => false) Tryz.f198 = some lf198 := by kernel_rfl
theorem fr198 : FR Tryz.prog 198 lf198 := compF_sound (by kernel_rfl) Tryz.func198 (by kernel_rfl) cf198
noncomputable def lf199 : LFn := (compF Tryz.prog (fun _ _ => false) Tryz.f199).getD default
theorem cf199 : compF Tryz.prog (fun _ _ => false) Tryz.f199 = some lf199 := by kernel_rfl
theorem fr199 : FR Tryz.prog 199 lf199 := compF_sound (by kernel_rfl) Tryz.func199 (by kernel_rfl) cf199
noncomputable def lf200 : LFn := (compF Tryz.prog (fun _ _ => false) Tryz.f200).getD default
theorem cf200 : compF Tryz.prog (fun _ _ => false) Tryz.f200 = some lf200 := by kernel_rfl
theorem fr200 : FR Tryz.prog 200 lf200 := compF_sound (by kernel_rfl) Tryz.func200 (by kernel_rfl) cf200
noncomputable def lf201 : LFn := (compF Tryz.prog (fun _ _ => false) Tryz.f201).getD default
theorem cf201 : compF Tryz.prog (fun _ _ => false) Tryz.f201 = some lf201 := by kernel_rfl
theorem fr201 : FR Tryz.prog 201 lf201 := compF_sound (by kernel_rfl) Tryz.func201 (by kernel_rfl) cf201
noncomputable def lf203 : LFn := (compF Tryz.prog (fun r o => (Nat.beq r 17 && Nat.beq o 6) || (Nat.beq r 17 && Nat.beq o 7)) Tryz.f203).getD default
theorem cf203 : compF Tryz.prog (fun r o => (Nat.beq r 17 && Nat.beq o 6) || (Nat.beq r 17 && Nat.beq o 7)) Tryz.f203 = some lf203 := by kernel_rfl
theorem fr203 : FR Tryz.prog 203 lf203 := compF_sound (by kernel_rfl) Tryz.func203 (by kernel_rfl) cf203
noncomputable def lf204 : LFn := (compF Tryz.prog (fun _ _ => false) Tryz.f204).getD default
theorem cf204 : compF Tryz.prog (fun _ _ => false) Tryz.f204 = some lf204 := by kernel_rfl
theorem fr204 : FR Tryz.prog 204 lf204 := compF_sound (by kernel_rfl) Tryz.func204 (by kernel_rfl) cf204
noncomputable def lf206 : LFn := (compF Tryz.prog (fun _ _ => false) Tryz.f206).getD default
theorem cf206 : compF Tryz.prog (fun _ _ => false) Tryz.f206 = some lf206 := by kernel_rfl
theorem fr206 : FR Tryz.prog 206 lf206 := compF_sound (by kernel_rfl) Tryz.func206 (by kernel_rfl) cf206
noncomputable def lf207 : LFn := (compF Tryz.prog (fun _ _ => false) Tryz.f207).getD default
theorem cf207 : compF Tryz.prog (fun _ _ => false) Tryz.f207 = some lf207 := by kernel_rfl
theorem fr207 : FR Tryz.prog 207 lf207 := compF_sound (by kernel_rfl) Tryz.func207 (by kernel_rfl) cf207
noncomputable def lf208 : LFn := (compF Tryz.prog (fun _ _ => false) Tryz.f208).getD default
theorem cf208 : compF Tryz.prog (fun _ _ => false) Tryz.f208 = some lf208 := by kernel_rfl
theorem fr208 : FR Tryz.prog 208 lf208 := compF_sound (by kernel_rfl) Tryz.func208 (by kernel_rfl) cf208
noncomputable def lf209 : LFn := (compF Tryz.prog (fun _ _ => false) Tryz.f209).getD default
theorem cf209 : compF Tryz.prog (fun _ _ => false) Tryz.f209 = some lf209 := by kernel_rfl
theorem fr209 : FR Tryz.prog 209 lf209 := compF_sound (by kernel_rfl) Tryz.func209 (by kernel_rfl) cf209
noncomputable def lf214 : LFn := (compF Tryz.prog (fun _ _ => false) Tryz.f214).getD default
theorem cf214 : compF Tryz.prog (fun _ _ => false) Tryz.f214 = some lf214 := by kernel_rfl
theorem fr214 : FR Tryz.prog 214 lf214 := compF_sound (by kernel_rfl) Tryz.func214 (by kernel_rfl) cf214
noncomputable def lf216 : LFn := (compF Tryz.prog (fun _ _ => false) Tryz.f216).getD default
theorem cf216 : compF Tryz.prog (fun _ _ => false) Tryz.f216 = some lf216 := by kernel_rfl
theorem fr216 : FR Tryz.prog 216 lf216 := compF_sound (by kernel_rfl) Tryz.func216 (by kernel_rfl) cf216
noncomputable def lf219 : LFn := (compF Tryz.prog (fun _ _ => false) Tryz.f219).getD default
theorem cf219 : compF Tryz.prog (fun _ _ => false) Tryz.f219 = some lf219 := by kernel_rfl
theorem fr219 : FR Tryz.prog 219 lf219 := compF_sound (by kernel_rfl) Tryz.func219 (by kernel_rfl) cf219
noncomputable def lf222 : LFn := (compF Tryz.prog (fun _ _ => false) Tryz.f222).getD default
theorem cf222 : compF Tryz.prog (fun _ _ => false) Tryz.f222 = some lf222 := by kernel_rfl
theorem fr222 : FR Tryz.prog 222 lf222 := compF_sound (by kernel_rfl) Tryz.func222 (by kernel_rfl) cf222
noncomputable def lf226 : LFn := (compF Tryz.prog (fun _ _ => false) Tryz.f226).getD default
theorem cf226 : compF Tryz.prog (fun _ _ => false) Tryz.f226 = some lf226 := by kernel_rfl
theorem fr226 : FR Tryz.prog 226 lf226 := compF_sound (by kernel_rfl) Tryz.func226 (by kernel_rfl) cf226
noncomputable def lf227 : LFn := (compF Tryz.prog (fun _ _ => false) Tryz.f227).getD default
theorem cf227 : compF Tryz.prog (fun _ _ => false) Tryz.f227 = some lf227 := by kernel_rfl
theorem fr227 : FR Tryz.prog 227 lf227 := compF_sound (by kernel_rfl) Tryz.func227 (by kernel_rfl) cf227
noncomputable def lf228 : LFn := (compF Tryz.prog (fun _ _ => false) Tryz.f228).getD default
theorem cf228 : compF Tryz.prog (fun _ _ => false) Tryz.f228 = some lf228 := by kernel_rfl
theorem fr228 : FR Tryz.prog 228 lf228 := compF_sound (by kernel_rfl) Tryz.func228 (by kernel_rfl) cf228
noncomputable def lf229 : LFn := (compF Tryz.prog (fun _ _ => false) Tryz.f229).getD default
theorem cf229 : compF Tryz.prog (fun _ _ => false) Tryz.f229 = some lf229 := by kernel_rfl
theorem fr229 : FR Tryz.prog 229 lf229 := compF_sound (by kernel_rfl) Tryz.func229 (by kernel_rfl) cf229
noncomputable def lf230 : LFn := (compF Tryz.prog (fun _ _ => false) Tryz.f230).getD default
theorem cf230 : compF Tryz.prog (fun _ _ => false) Tryz.f230 = some lf230 := by kernel_rfl
theorem fr230 : FR Tryz.prog 230 lf230 := compF_sound (by kernel_rfl) Tryz.func230 (by kernel_rfl) cf230
noncomputable def lf231 : LFn := (compF Tryz.prog (fun _ _ => false) Tryz.f231).getD default
theorem cf231 : compF Tryz.prog (fun _ _ => false) Tryz.f231 = some lf231 := by kernel_rfl
theorem fr231 : FR Tryz.prog 231 lf231 := compF_sound (by kernel_rfl) Tryz.func231 (by kernel_rfl) cf231
noncomputable def lf232 : LFn := (compF Tryz.prog (fun _ _ => false) Tryz.f232).getD default
theorem cf232 : compF Tryz.prog (fun _ _ => false) Tryz.f232 = some lf232 := by kernel_rfl
theorem fr232 : FR Tryz.prog 232 lf232 := compF_sound (by kernel_rfl) Tryz.func232 (by kernel_rfl) cf232
noncomputable def lf233 : LFn := (compF Tryz.prog (fun _ _ => false) Tryz.f233).getD default
theorem cf233 : compF Tryz.prog (fun _ _ => false) Tryz.f233 = some lf233 := by kernel_rfl
theorem fr233 : FR Tryz.prog 233 lf233 := compF_sound (by kernel_rfl) Tryz.func233 (by kernel_rfl) cf233
noncomputable def lf234 : LFn := (compF Tryz.prog (fun _ _ => false) Tryz.f234).getD default
theorem cf234 : compF Tryz.prog (fun _ _ => false) Tryz.f234 = some lf234 := by kernel_rfl
theorem fr234 : FR Tryz.prog 234 lf234 := compF_sound (by kernel_rfl) Tryz.func234 (by kernel_rfl) cf234
noncomputable def lf235 : LFn := (compF Tryz.prog (fun _ _ => false) Tryz.f235).getD default
theorem cf235 : compF Tryz.prog (fun _ _ => false) Tryz.f235 = some lf235 := by kernel_rfl
theorem fr235 : FR Tryz.prog 235 lf235 := compF_sound (by kernel_rfl) Tryz.func235 (by kernel_rfl) cf235
noncomputable def lf244 : LFn := (compF Tryz.prog (fun _ _ => false) Tryz.f244).getD default
theorem cf244 : compF Tryz.prog (fun _ _ => false) Tryz.f244 = some lf244 := by kernel_rfl
theorem fr244 : FR Tryz.prog 244 lf244 := compF_sound (by kernel_rfl) Tryz.func244 (by kernel_rfl) cf244
noncomputable def lf259 : LFn := (compF Tryz.prog (fun r o => (Nat.beq r 3 && Nat.beq o 2)) Tryz.f259).getD default
theorem cf259 : compF Tryz.prog (fun r o => (Nat.beq r 3 && Nat.beq o 2)) Tryz.f259 = some lf259 := by kernel_rfl
theorem fr259 : FR Tryz.prog 259 lf259 := compF_sound (by kernel_rfl) Tryz.func259 (by kernel_rfl) cf259
noncomputable def lf262 : LFn := (compF Tryz.prog (fun _ _ => false) Tryz.f262).getD default
theorem cf262 : compF Tryz.prog (fun _ _ => false) Tryz.f262 = some lf262 := by kernel_rfl
theorem fr262 : FR Tryz.prog 262 lf262 := compF_sound (by kernel_rfl) Tryz.func262 (by kernel_rfl) cf262
noncomputable def lf265 : LFn := (compF Tryz.prog (fun _ _ => false) Tryz.f265).getD default
theorem cf265 : compF Tryz.prog (fun _ _ => false) Tryz.f265 = some lf265 := by kernel_rfl
theorem fr265 : FR Tryz.prog 265 lf265 := compF_sound (by kernel_rfl) Tryz.func265 (by kernel_rfl) cf265
noncomputable def lf266 : LFn := (compF Tryz.prog (fun _ _ => false) Tryz.f266).getD default
theorem cf266 : compF Tryz.prog (fun _ _ => false) Tryz.f266 = some lf266 := by kernel_rfl
theorem fr266 : FR Tryz.prog 266 lf266 := compF_sound (by kernel_rfl) Tryz.func266 (by kernel_rfl) cf266
noncomputable def lf269 : LFn := (compF Tryz.prog (fun _ _ => false) Tryz.f269).getD default
theorem cf269 : compF Tryz.prog (fun _ _ => false) Tryz.f269 = some lf269 := by kernel_rfl
theorem fr269 : FR Tryz.prog 269 lf269 := compF_sound (by kernel_rfl) Tryz.func269 (by kernel_rfl) cf269
noncomputable def lf272 : LFn := (compF Tryz.prog (fun _ _ => false) Tryz.f272).getD default
theorem cf272 : compF Tryz.prog (fun _ _ => false) Tryz.f272 = some lf272 := by kernel_rfl
theorem fr272 : FR Tryz.prog 272 lf272 := compF_sound (by kernel_rfl) Tryz.func272 (by kernel_rfl) cf272
noncomputable def lf275 : LFn := (compF Tryz.prog (fun _ _ => false) Tryz.f275).getD default
theorem cf275 : compF Tryz.prog (fun _ _ => false) Tryz.f275 = some lf275 := by kernel_rfl
theorem fr275 : FR Tryz.prog 275 lf275 := compF_sound (by kernel_rfl) Tryz.func275 (by kernel_rfl) cf275
noncomputable def lf276 : LFn := (compF Tryz.prog (fun _ _ => false) Tryz.f276).getD default
theorem cf276 : compF Tryz.prog (fun _ _ => false) Tryz.f276 = some lf276 := by kernel_rfl
theorem fr276 : FR Tryz.prog 276 lf276 := compF_sound (by kernel_rfl) Tryz.func276 (by kernel_rfl) cf276
noncomputable def lf277 : LFn := (compF Tryz.prog (fun _ _ => false) Tryz.f277).getD default
theorem cf277 : compF Tryz.prog (fun _ _ => false) Tryz.f277 = some lf277 := by kernel_rfl
theorem fr277 : FR Tryz.prog 277 lf277 := compF_sound (by kernel_rfl) Tryz.func277 (by kernel_rfl) cf277
noncomputable def lf278 : LFn := (compF Tryz.prog (fun _ _ => false) Tryz.f278).getD default
theorem cf278 : compF Tryz.prog (fun _ _ => false) Tryz.f278 = some lf278 := by kernel_rfl
theorem fr278 : FR Tryz.prog 278 lf278 := compF_sound (by kernel_rfl) Tryz.func278 (by kernel_rfl) cf278
noncomputable def lf279 : LFn := (compF Tryz.prog (fun _ _ => false) Tryz.f279).getD default
theorem cf279 : compF Tryz.prog (fun _ _ => false) Tryz.f279 = some lf279 := by kernel_rfl
theorem fr279 : FR Tryz.prog 279 lf279 := compF_sound (by kernel_rfl) Tryz.func279 (by kernel_rfl) cf279
noncomputable def lf280 : LFn := (compF Tryz.prog (fun _ _ => false) Tryz.f280).getD default
theorem cf280 : compF Tryz.prog (fun _ _ => false) Tryz.f280 = some lf280 := by kernel_rfl
theorem fr280 : FR Tryz.prog 280 lf280 := compF_sound (by kernel_rfl) Tryz.func280 (by kernel_rfl) cf280
noncomputable def lf289 : LFn := (compF Tryz.prog (fun _ _ => false) Tryz.f289).getD default
theorem cf289 : compF Tryz.prog (fun _ _ => false) Tryz.f289 = some lf289 := by kernel_rfl
theorem fr289 : FR Tryz.prog 289 lf289 := compF_sound (by kernel_rfl) Tryz.func289 (by kernel_rfl) cf289
noncomputable def lf290 : LFn := (compF Tryz.prog (fun _ _ => false) Tryz.f290).getD default
theorem cf290 : compF Tryz.prog (fun _ _ => false) Tryz.f290 = some lf290 := by kernel_rfl
theorem fr290 : FR Tryz.prog 290 lf290 := compF_sound (by kernel_rfl) Tryz.func290 (by kernel_rfl) cf290
noncomputable def lf291 : LFn := (compF Tryz.prog (fun _ _ => false) Tryz.f291).getD default
theorem cf291 : compF Tryz.prog (fun _ _ => false) Tryz.f291 = some lf291 := by kernel_rfl
theorem fr291 : FR Tryz.prog 291 lf291 := compF_sound (by kernel_rfl) Tryz.func291 (by kernel_rfl) cf291
noncomputable def lf292 : LFn := (compF Tryz.prog (fun _ _ => false) Tryz.f292).getD default
theorem cf292 : compF Tryz.prog (fun _ _ => false) Tryz.f292 = some lf292 := by kernel_rfl
theorem fr292 : FR Tryz.prog 292 lf292 := compF_sound (by kernel_rfl) Tryz.func292 (by kernel_rfl) cf292
noncomputable def lf293 : LFn := (compF Tryz.prog (fun _ _ => false) Tryz.f293).getD default
theorem cf293 : compF Tryz.prog (fun _ _ => false) Tryz.f293 = some lf293 := by kernel_rfl
theorem fr293 : FR Tryz.prog 293 lf293 := compF_sound (by kernel_rfl) Tryz.func293 (by kernel_rfl) cf293
noncomputable def lf296 : LFn := (compF Tryz.prog (fun _ _ => false) Tryz.f296).getD default
theorem cf296 : compF Tryz.prog (fun _ _ => false) Tryz.f296 = some lf296 := by kernel_rfl
theorem fr296 : FR Tryz.prog 296 lf296 := compF_sound (by kernel_rfl) Tryz.func296 (by kernel_rfl) cf296
noncomputable def lf298 : LFn := (compF Tryz.prog (fun _ _ => false) Tryz.f298).getD default
theorem cf298 : compF Tryz.prog (fun _ _ => false) Tryz.f298 = some lf298 := by kernel_rfl
theorem fr298 : FR Tryz.prog 298 lf298 := compF_sound (by kernel_rfl) Tryz.func298 (by kernel_rfl) cf298
noncomputable def lf300 : LFn := (compF Tryz.prog (fun r o => (Nat.beq r 4 && Nat.beq o 7) || (Nat.beq r 4 && Nat.beq o 8)) Tryz.f300).getD default
theorem cf300 : compF Tryz.prog (fun r o => (Nat.beq r 4 && Nat.beq o 7) || (Nat.beq r 4 && Nat.beq o 8)) Tryz.f300 = some lf300 := by kernel_rfl
theorem fr300 : FR Tryz.prog 300 lf300 := compF_sound (by kernel_rfl) Tryz.func300 (by kernel_rfl) cf300
noncomputable def lf304 : LFn := (compF Tryz.prog (fun _ _ => false) Tryz.f304).getD default
theorem cf304 : compF Tryz.prog (fun _ _ => false) Tryz.f304 = some lf304 := by kernel_rfl
theorem fr304 : FR Tryz.prog 304 lf304 := compF_sound (by kernel_rfl) Tryz.func304 (by kernel_rfl) cf304
noncomputable def lf305 : LFn := (compF Tryz.prog (fun _ _ => false) Tryz.f305).getD default
theorem cf305 : compF Tryz.prog (fun _ _ => false) Tryz.f305 = some lf305 := by kernel_rfl
theorem fr305 : FR Tryz.prog 305 lf305 := compF_sound (by kernel_rfl) Tryz.func305 (by kernel_rfl) cf305
noncomputable def lf308 : LFn := (compF Tryz.prog (fun _ _ => false) Tryz.f308).getD default
theorem cf308 : compF Tryz.prog (fun _ _ => false) Tryz.f308 = some lf308 := by kernel_rfl
theorem fr308 : FR Tryz.prog 308 lf308 := compF_sound (by kernel_rfl) Tryz.func308 (by kernel_rfl) cf308
noncomputable def lf311 : LFn := (compF Tryz.prog (fun _ _ => false) Tryz.f311).getD default
theorem cf311 : compF Tryz.prog (fun _ _ => false) Tryz.f311 = some lf311 := by kernel_rfl
theorem fr311 : FR Tryz.prog 311 lf311 := compF_sound (by kernel_rfl) Tryz.func311 (by kernel_rfl) cf311
noncomputable def lf312 : LFn := (compF Tryz.prog (fun _ _ => false) Tryz.f312).getD default
theorem cf312 : compF Tryz.prog (fun _ _ => false) Tryz.f312 = some lf312 := by kernel_rfl
theorem fr312 : FR Tryz.prog 312 lf312 := compF_sound (by kernel_rfl) Tryz.func312 (by kernel_rfl) cf312
noncomputable def lf313 : LFn := (compF Tryz.prog (fun _ _ => false) Tryz.f313).getD default
theorem cf313 : compF Tryz.prog (fun _ _ => false) Tryz.f313 = some lf313 := by kernel_rfl
theorem fr313 : FR Tryz.prog 313 lf313 := compF_sound (by kernel_rfl) Tryz.func313 (by kernel_rfl) cf313
noncomputable def lf314 : LFn := (compF Tryz.prog (fun _ _ => false) Tryz.f314).getD default
theorem cf314 : compF Tryz.prog (fun _ _ => false) Tryz.f314 = some lf314 := by kernel_rfl
theorem fr314 : FR Tryz.prog 314 lf314 := compF_sound (by kernel_rfl) Tryz.func314 (by kernel_rfl) cf314
noncomputable def lf315 : LFn := (compF Tryz.prog (fun _ _ => false) Tryz.f315).getD default
theorem cf315 : compF Tryz.prog (fun _ _ => false) Tryz.f315 = some lf315 := by kernel_rfl
theorem fr315 : FR Tryz.prog 315 lf315 := compF_sound (by kernel_rfl) Tryz.func315 (by kernel_rfl) cf315
noncomputable def lf316 : LFn := (compF Tryz.prog (fun _ _ => false) Tryz.f316).getD default
theorem cf316 : compF Tryz.prog (fun _ _ => false) Tryz.f316 = some lf316 := by kernel_rfl
theorem fr316 : FR Tryz.prog 316 lf316 := compF_sound (by kernel_rfl) Tryz.func316 (by kernel_rfl) cf316
noncomputable def lf318 : LFn := (compF Tryz.prog (fun _ _ => false) Tryz.f318).getD default
theorem cf318 : compF Tryz.prog (fun _ _ => false) Tryz.f318 = some lf318 := by kernel_rfl
theorem fr318 : FR Tryz.prog 318 lf318 := compF_sound (by kernel_rfl) Tryz.func318 (by kernel_rfl) cf318
noncomputable def lf319 : LFn := (compF Tryz.prog (fun _ _ => false) Tryz.f319).getD default
theorem cf319 : compF Tryz.prog (fun _ _ => false) Tryz.f319 = some lf319 := by kernel_rfl
theorem fr319 : FR Tryz.prog 319 lf319 := compF_sound (by kernel_rfl) Tryz.func319 (by kernel_rfl) cf319
noncomputable def lf320 : LFn := (compF Tryz.prog (fun _ _ => false) Tryz.f320).getD default
theorem cf320 : compF Tryz.prog (fun _ _ => false) Tryz.f320 = some lf320 := by kernel_rfl
theorem fr320 : FR Tryz.prog 320 lf320 := compF_sound (by kernel_rfl) Tryz.func320 (by kernel_rfl) cf320
noncomputable def lf321 : LFn := (compF Tryz.prog (fun _ _ => false) Tryz.f321).getD default
theorem cf321 : compF Tryz.prog (fun _ _ => false) Tryz.f321 = some lf321 := by kernel_rfl
theorem fr321 : FR Tryz.prog 321 lf321 := compF_sound (by kernel_rfl) Tryz.func321 (by kernel_rfl) cf321
noncomputable def lf322 : LFn := (compF Tryz.prog (fun _ _ => false) Tryz.f322).getD default
theorem cf322 : compF Tryz.prog (fun _ _ => false) Tryz.f322 = some lf322 := by kernel_rfl
theorem fr322 : FR Tryz.prog 322 lf322 := compF_sound (by kernel_rfl) Tryz.func322 (by kernel_rfl) cf322
noncomputable def lf323 : LFn := (compF Tryz.prog (fun _ _ => false) Tryz.f323).getD default
theorem cf323 : compF Tryz.prog (fun _ _ => false) Tryz.f323 = some lf323 := by kernel_rfl
theorem fr323 : FR Tryz.prog 323 lf323 := compF_sound (by kernel_rfl) Tryz.func323 (by kernel_rfl) cf323
noncomputable def lf329 : LFn := (compF Tryz.prog (fun _ _ => false) Tryz.f329).getD default
theorem cf329 : compF Tryz.prog (fun _ _ => false) Tryz.f329 = some lf329 := by kernel_rfl
theorem fr329 : FR Tryz.prog 329 lf329 := compF_sound (by kernel_rfl) Tryz.func329 (by kernel_rfl) cf329
noncomputable def lf330 : LFn := (compF Tryz.prog (fun _ _ => false) Tryz.f330).getD default
theorem cf330 : compF Tryz.prog (fun _ _ => false) Tryz.f330 = some lf330 := by kernel_rfl
theorem fr330 : FR Tryz.prog 330 lf330 := compF_sound (by kernel_rfl) Tryz.func330 (by kernel_rfl) cf330
noncomputable def lf331 : LFn := (compF Tryz.prog (fun _ _ => false) Tryz.f331).getD default
theorem cf331 : compF Tryz.prog (fun _ _ => false) Tryz.f331 = some lf331 := by kernel_rfl
theorem fr331 : FR Tryz.prog 331 lf331 := compF_sound (by kernel_rfl) Tryz.func331 (by kernel_rfl) cf331
noncomputable def lf335 : LFn := (compF Tryz.prog (fun _ _ => false) Tryz.f335).getD default
theorem cf335 : compF Tryz.prog (fun _ _ => false) Tryz.f335 = some lf335 := by kernel_rfl
theorem fr335 : FR Tryz.prog 335 lf335 := compF_sound (by kernel_rfl) Tryz.func335 (by kernel_rfl) cf335
noncomputable def lf349 : LFn := (compF Tryz.prog (fun _ _ => false) Tryz.f349).getD default
theorem cf349 : compF Tryz.prog (fun _ _ => false) Tryz.f349 = some lf349 := by kernel_rfl
theorem fr349 : FR Tryz.prog 349 lf349 := compF_sound (by kernel_rfl) Tryz.func349 (by kernel_rfl) cf349
noncomputable def lf350 : LFn := (compF Tryz.prog (fun _ _ => false) Tryz.f350).getD default
theorem cf350 : compF Tryz.prog (fun _ _ => false) Tryz.f350 = some lf350 := by kernel_rfl
theorem fr350 : FR Tryz.prog 350 lf350 := compF_sound (by kernel_rfl) Tryz.func350 (by kernel_rfl) cf350
noncomputable def lf361 : LFn := (compF Tryz.prog (fun _ _ => false) Tryz.f361).getD default
theorem cf361 : compF Tryz.prog (fun _ _ => false) Tryz.f361 = some lf361 := by kernel_rfl
theorem fr361 : FR Tryz.prog 361 lf361 := compF_sound (by kernel_rfl) Tryz.func361 (by kernel_rfl) cf361
noncomputable def lf362 : LFn := (compF Tryz.prog (fun _ _ => false) Tryz.f362).getD default
theorem cf362 : compF Tryz.prog (fun _ _ => false) Tryz.f362 = some lf362 := by kernel_rfl
theorem fr362 : FR Tryz.prog 362 lf362 := compF_sound (by kernel_rfl) Tryz.func362 (by kernel_rfl) cf362
noncomputable def lf363 : LFn := (compF Tryz.prog (fun _ _ => false) Tryz.f363).getD default
theorem cf363 : compF Tryz.prog (fun _ _ => false) Tryz.f363 = some lf363 := by kernel_rfl
theorem fr363 : FR Tryz.prog 363 lf363 := compF_sound (by kernel_rfl) Tryz.func363 (by kernel_rfl) cf363
noncomputable def lf365 : LFn := (compF Tryz.prog (fun _ _ => false) Tryz.f365).getD default
theorem cf365 : compF Tryz.prog (fun _ _ => false) Tryz.f365 = some lf365 := by kernel_rfl
theorem fr365 : FR Tryz.prog 365 lf365 := compF_sound (by kernel_rfl) Tryz.func365 (by kernel_rfl) cf365
noncomputable def lf369 : LFn := (compF Tryz.prog (fun _ _ => false) Tryz.f369).getD default
theorem cf369 : compF Tryz.prog (fun _ _ => false) Tryz.f369 = some lf369 := by kernel_rfl
theorem fr369 : FR Tryz.prog 369 lf369 := compF_sound (by kernel_rfl) Tryz.func369 (by kernel_rfl) cf369
noncomputable def lf371 : LFn := (compF Tryz.prog (fun _ _ => false) Tryz.f371).getD default
theorem cf371 : compF Tryz.prog (fun _ _ => false) Tryz.f371 = some lf371 := by kernel_rfl
theorem fr371 : FR Tryz.prog 371 lf371 := compF_sound (by kernel_rfl) Tryz.func371 (by kernel_rfl) cf371
noncomputable def lf376 : LFn := (compF Tryz.prog (fun _ _ => false) Tryz.f376).getD default
theorem cf376 : compF Tryz.prog (fun _ _ => false) Tryz.f376 = some lf376 := by kernel_rfl
theorem fr376 : FR Tryz.prog 376 lf376 := compF_sound (by kernel_rfl) Tryz.func376 (by kernel_rfl) cf376
noncomputable def lf377 : LFn := (compF Tryz.prog (fun _ _ => false) Tryz.f377).getD default
theorem cf377 : compF Tryz.prog (fun _ _ => false) Tryz.f377 = some lf377 := by kernel_rfl
theorem fr377 : FR Tryz.prog 377 lf377 := compF_sound (by kernel_rfl) Tryz.func377 (by kernel_rfl) cf377
noncomputable def lf378 : LFn := (compF Tryz.prog (fun _ _ => false) Tryz.f378).getD default
theorem cf378 : compF Tryz.prog (fun _ _ => false) Tryz.f378 = some lf378 := by kernel_rfl
theorem fr378 : FR Tryz.prog 378 lf378 := compF_sound (by kernel_rfl) Tryz.func378 (by kernel_rfl) cf378
noncomputable def lf379 : LFn := (compF Tryz.prog (fun _ _ => false) Tryz.f379).getD default
theorem cf379 : compF Tryz.prog (fun _ _ => false) Tryz.f379 = some lf379 := by kernel_rfl
theorem fr379 : FR Tryz.prog 379 lf379 := compF_sound (by kernel_rfl) Tryz.func379 (by kernel_rfl) cf379
noncomputable def lf383 : LFn := (compF Tryz.prog (fun _ _ => false) Tryz.f383).getD default
theorem cf383 : compF Tryz.prog (fun _ _ => false) Tryz.f383 = some lf383 := by kernel_rfl
theorem fr383 : FR Tryz.prog 383 lf383 := compF_sound (by kernel_rfl) Tryz.func383 (by kernel_rfl) cf383
noncomputable def lf384 : LFn := (compF Tryz.prog (fun _ _ => false) Tryz.f384).getD default
theorem cf384 : compF Tryz.prog (fun _ _ => false) Tryz.f384 = some lf384 := by kernel_rfl
theorem fr384 : FR Tryz.prog 384 lf384 := compF_sound (by kernel_rfl) Tryz.func384 (by kernel_rfl) cf384
noncomputable def lf402 : LFn := (compF Tryz.prog (fun _ _ => false) Tryz.f402).getD default
theorem cf402 : compF Tryz.prog (fun _ _ => false) Tryz.f402 = some lf402 := by kernel_rfl
theorem fr402 : FR Tryz.prog 402 lf402 := compF_sound (by kernel_rfl) Tryz.func402 (by kernel_rfl) cf402
noncomputable def lf403 : LFn := (compF Tryz.prog (fun _ _ => false) Tryz.f403).getD default
theorem cf403 : compF Tryz.prog (fun _ _ => false) Tryz.f403 = some lf403 := by kernel_rfl
theorem fr403 : FR Tryz.prog 403 lf403 := compF_sound (by kernel_rfl) Tryz.func403 (by kernel_rfl) cf403
noncomputable def lf404 : LFn := (compF Tryz.prog (fun _ _ => false) Tryz.f404).getD default
theorem cf404 : compF Tryz.prog (fun _ _ => false) Tryz.f404 = some lf404 := by kernel_rfl
theorem fr404 : FR Tryz.prog 404 lf404 := compF_sound (by kernel_rfl) Tryz.func404 (by kernel_rfl) cf404
noncomputable def lf406 : LFn := (compF Tryz.prog (fun _ _ => false) Tryz.f406).getD default
theorem cf406 : compF Tryz.prog (fun _ _ => false) Tryz.f406 = some lf406 := by kernel_rfl
theorem fr406 : FR Tryz.prog 406 lf406 := compF_sound (by kernel_rfl) Tryz.func406 (by kernel_rfl) cf406
noncomputable def lf407 : LFn := (compF Tryz.prog (fun _ _ => false) Tryz.f407).getD default
theorem cf407 : compF Tryz.prog (fun _ _ => false) Tryz.f407 = some lf407 := by kernel_rfl
theorem fr407 : FR Tryz.prog 407 lf407 := compF_sound (by kernel_rfl) Tryz.func407 (by kernel_rfl) cf407
noncomputable def lf408 : LFn := (compF Tryz.prog (fun _ _ => false) Tryz.f408).getD default
theorem cf408 : compF Tryz.prog (fun _ _ => false) Tryz.f408 = some lf408 := by kernel_rfl
theorem fr408 : FR Tryz.prog 408 lf408 := compF_sound (by kernel_rfl) Tryz.func408 (by kernel_rfl) cf408
noncomputable def lf409 : LFn := (compF Tryz.prog (fun _ _ => false) Tryz.f409).getD default
theorem cf409 : compF Tryz.prog (fun _ _ => false) Tryz.f409 = some lf409 := by kernel_rfl
theorem fr409 : FR Tryz.prog 409 lf409 := compF_sound (by kernel_rfl) Tryz.func409 (by kernel_rfl) cf409
noncomputable def lf410 : LFn := (compF Tryz.prog (fun _ _ => false) Tryz.f410).getD default
theorem cf410 : compF Tryz.prog (fun _ _ => false) Tryz.f410 = some lf410 := by kernel_rfl
theorem fr410 : FR Tryz.prog 410 lf410 := compF_sound (by kernel_rfl) Tryz.func410 (by kernel_rfl) cf410
noncomputable def lf413 : LFn := (compF Tryz.prog (fun _ _ => false) Tryz.f413).getD default
theorem cf413 : compF Tryz.prog (fun _ _ => false) Tryz.f413 = some lf413 := by kernel_rfl
theorem fr413 : FR Tryz.prog 413 lf413 := compF_sound (by kernel_rfl) Tryz.func413 (by kernel_rfl) cf413
noncomputable def lf414 : LFn := (compF Tryz.prog (fun _ _ => false) Tryz.f414).getD default
theorem cf414 : compF Tryz.prog (fun _ _ => false) Tryz.f414 = some lf414 := by kernel_rfl
theorem fr414 : FR Tryz.prog 414 lf414 := compF_sound (by kernel_rfl) Tryz.func414 (by kernel_rfl) cf414
noncomputable def lf415 : LFn := (compF Tryz.prog (fun _ _ => false) Tryz.f415).getD default
theorem cf415 : compF Tryz.prog (fun _ _ => false) Tryz.f415 = some lf415 := by kernel_rfl
theorem fr415 : FR Tryz.prog 415 lf415 := compF_sound (by kernel_rfl) Tryz.func415 (by kernel_rfl) cf415
noncomputable def lf416 : LFn := (compF Tryz.prog (fun _ _ => false) Tryz.f416).getD default
theorem cf416 : compF Tryz.prog (fun _ _ => false) Tryz.f416 = some lf416 := by kernel_rfl
theorem fr416 : FR Tryz.prog 416 lf416 := compF_sound (by kernel_rfl) Tryz.func416 (by kernel_rfl) cf416
noncomputable def lf419 : LFn := (compF Tryz.prog (fun _ _ => false) Tryz.f419).getD default
theorem cf419 : compF Tryz.prog (fun _ _ => false) Tryz.f419 = some lf419 := by kernel_rfl
theorem fr419 : FR Tryz.prog 419 lf419 := compF_sound (by kernel_rfl) Tryz.func419 (by kernel_rfl) cf419
noncomputable def lf420 : LFn := (compF Tryz.prog (fun _ _ => false) Tryz.f420).getD default
theorem cf420 : compF Tryz.prog (fun _ _ => false) Tryz.f420 = some lf420 := by kernel_rfl
theorem fr420 : FR Tryz.prog 420 lf420 := compF_sound (by kernel_rfl) Tryz.func420 (by kernel_rfl) cf420
noncomputable def lf421 : LFn := (compF Tryz.prog (fun _ _ => false) Tryz.f421).getD default
theorem cf421 : compF Tryz.prog (fun _ _ => false) Tryz.f421 = some lf421 := by kernel_rfl
theorem fr421 : FR Tryz.prog 421 lf421 := compF_sound (by kernel_rfl) Tryz.func421 (by kernel_rfl) cf421
noncomputable def lf425 : LFn := (compF Tryz.prog (fun _ _ => false) Tryz.f425).getD default
theorem cf425 : compF Tryz.prog (fun _ _ => false) Tryz.f425 = some lf425 := by kernel_rfl
theorem fr425 : FR Tryz.prog 425 lf425 := compF_sound (by kernel_rfl) Tryz.func425 (by kernel_rfl) cf425
noncomputable def lf426 : LFn := (compF Tryz.prog (fun _ _ => false) Tryz.f426).getD default
theorem cf426 : compF Tryz.prog (fun _ _ => false) Tryz.f426 = some lf426 := by kernel_rfl
theorem fr426 : FR Tryz.prog 426 lf426 := compF_sound (by kernel_rfl) Tryz.func426 (by kernel_rfl) cf426
end Go.Proofs.YtopbbbhhbnghpaaGreatDoor
